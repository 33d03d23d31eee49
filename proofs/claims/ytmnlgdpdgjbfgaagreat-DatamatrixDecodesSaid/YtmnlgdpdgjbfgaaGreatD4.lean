/- Lemmas. -/
import Derived.Test.YtmnlgdpdgjbfgaaGreatD3
import Derived.Orders
import Derived.Scope
import Derived.Recover
set_option linter.all false
namespace Go.Abs
section
variable {ds:List Deferred}{P:Program}{callA:dm}{base G lo:Nat}{φ:Map}{H:Heap}{w:World}{T:Raw}{a:Act}{Q:Exit->Act->World->Prop}
structure Tmps (ds:List Deferred)(φ:Map)(nt:Nat)(T:Raw)(a:Act):Prop where
 size:a.tmps.size=nt
 rel:∀t,VRel φ (T t) (a.tmps.getD t undef)
 defers:a.defers=ds
theorem Tmps.mono{ψ:Map}{nt:Nat}(h:φ.le ψ)(r:Tmps ds φ nt T a):Tmps ds ψ nt T a:=⟨r.size,fun t=>(r.rel t).mono h,r.defers⟩
theorem Tmps.put{nt:Nat}(r:Tmps ds φ nt T a){dst:Option Nat}(hd:∀d,dst=some d->d<nt){v c:Value}(hv:VRel φ v c):Tmps ds φ nt (eU T dst v) (a.put dst c):=by
 cases dst with
 | none=>exact⟨r.size,r.rel,r.defers⟩
 | some d=>
  refine⟨by simp[Act.put,r.size],fun t=>?_,r.defers⟩;have hlt:d<a.tmps.size:=by rw[r.size];exact hd d rfl
  simp only[eU,Act.put];by_cases e:t=d
  ·subst e;simp[hlt];exact hv
  ·have:=r.rel t
   simp only[e,if_false];have e2:(a.tmps.setIfInBounds d c).getD t undef=a.tmps.getD t undef:=by
    simp[at₀,Array.getElem?_setIfInBounds];split
    ·rename_i h;exact absurd h.symm e
    ·rfl
   rw[e2];exact this
theorem Tmps.eval{nt:Nat}(r:Tmps ds φ nt T a)(hg:∀g,g<G->∃n,φ g=some ⟨g,0,n⟩)(x:Operand)(hx:match x with | .const v=>fO v=true | .global g=>g<G|_=>True):VRel φ (az T x) (a.eval x):=by
 cases x with
 | tmp t=>exact r.rel t
 | const v=>exact mf φ hx
 | global g=>obtain⟨n,hn⟩:=hg g hx;exact .ptr g 0 _ hn
 | func f=>exact .func f #[] #[] #[] #[] rfl rfl (fun j x y hx=>by simp at hx) (fun j x y hx=>by simp at hx)
abbrev gu:=jv
theorem mA{ops:List Oper}{nt:Nat}(r:Tmps ds φ nt T a)(o:Oper):Region.wanted o (yielded ops.toArray a.tmps)=bR ops T o:=by
 unfold Region.wanted bR;cases hg:o.guard with
 | none=>rfl
 | some q=>
  obtain⟨j,want⟩:=q;simp only[yielded,aj₀];cases hj:ops[j]? with
  | none=>rfl
  | some oj=>
   simp only[ao₀];cases hd:oj.dst with
   | none=>rfl
   | some t=>
    simp only[ao₀,tW];have:=r.rel t;rw[at₀]at this;cases ht:a.tmps[t]? with
    | none=>
     rw[ht]at this;simp only[Option.getD_none]at this;generalize T t=v at this;unfold undef at this;cases this<;>rfl
    | some c=>
     rw[ht]at this;simp only[aq₀]at this;generalize T t=v at this ⊢;cases this<;>simp
def fG(P:Program)(base G:Nat)(callA:dm):Prop:=
 ∀lo f args H v H',base<=lo->lo<=H.length->callA lo f args H=some (v,H') ->
  (∃ fn, P.funcs[f]? = some fn ∧ fn.body.isSome = true ∧ fn.name ≠ "runtime.NumGoroutine") ∧
  ∀φ w cargs,HRel φ base G H w->LRel φ args cargs->Calls P f cargs.toArray w fun e w'=>∃cv φ',e=.returned cv/\Eff φ base G lo H w φ' H' w'/\VRel φ' v cv
theorem Eff.weaken{φ':Map}{lo':Nat}{H':Heap}{w':World}(h:lo<=lo')(e:Eff φ base G lo' H w φ' H' w'):Eff φ base G lo H w φ' H' w':=
 ⟨e.le,e.rel,e.keeps,e.size,fun b hb hn=>e.keep b hb (fun i c p hi=>hn i c p (Nat.le_trans h hi)),
  fun i p hi hp=>(e.fresh i p hi hp).imp id (fun⟨j,c,q,h1,h2⟩=>⟨j,c,q,Nat.le_trans h h1,h2⟩),e.os,e.out⟩
theorem sO{ρ:Operand->Value}{dst:Option Tmp}{f:Operand}{args:Array Operand}{argTypes:Array TypeId}{type:TypeId}{pos:String}{after:Array Edge}{guard:Option (Nat×Bool)}{g:FuncId}{first cap:Array Value}{fn:Func}
  (hf : ρ f = .func (.func g) first cap) (hfn : P.funcs[g]? = some fn) (hb : fn.body.isSome = true) (hn : fn.name ≠ "runtime.NumGoroutine") :
  (execOp ρ ⟨dst,.call ⟨.value f,args,argTypes⟩,type,pos,after,guard⟩).run P w=.ok (.enter g (first++args.map ρ++cap)) w:=by
 have hb':fn.body.isNone=false:=by cases h:fn.body<;>simp_all
 have hn' : (fn.name == "runtime.NumGoroutine") = false := by simpa using hn
 simp only[execOp,Go.resolve,Sem.run_bind,hf,Deferred.ofValue,Sem.run_pure,Result.andThen_ok,invoke,callFunc,run_program,hfn];rw[if_neg (by simp[hn']),if_neg (by simp[hb'])];rfl
theorem wI{op:Op}{xs:List Operand}(hr0:bL P op=some (.h .callC,xs)):False:=by
 cases op<;>simp only[bL]at hr0
 case call c=>
  obtain⟨callee,args,argTypes⟩:=c;cases callee
  ·simp at hr0
  ·simp at hr0
  ·rename_i b
   cases b<;>simp only at hr0
   all_goals repeat' (first|(simp at hr0;done)|split at hr0|(simp only[ae₀,aa₀]at hr0;obtain⟨_,_,hr0⟩:=hr0))
 case makeFunc fn first captured=>cases fn<;>simp at hr0
 all_goals (repeat' (first|(simp at hr0;done)|split at hr0|(simp only[ae₀,aa₀]at hr0;obtain⟨_,_,hr0⟩:=hr0)))
theorem BB{op:Op}{xs:List Operand}(hr:Abs.resolve P op=(.h .callC,xs)):False:=by
 unfold Abs.resolve at hr;cases h0:bL P op with
 | none=>rw[h0]at hr;simp at hr
 | some q=>rw[h0]at hr;simp only[aq₀]at hr;subst hr;exact wI h0
theorem zY(hcall:fG P base G callA)(hbl:base<=lo)(hlo:lo<=H.length){raised:Bool}{o:Oper}(hH:HRel φ base G H w)
  (hρ0:∀x ∈ (resolve P o.op).2,VRel φ (az T x) (a.eval x)) {v:Value} {H':Heap}
  (hs:(match resolve P o.op with
   | (.l l,xs)=>(aJ l (xs.map (az T)) H).map fun v=>(v,H)
   | (.h h,xs)=>hsem callA lo (cD raised h) (xs.map (az T)) H)=some (v,H'))
  {K:Act->World->Prop} (hK:∀cv φ' w',Eff φ base G lo H w φ' H' w'->VRel φ' v cv->K (a.put o.dst cv) w'):o.wp P a w K Q:=by
 unfold resolve at hs hρ0;cases hr0:bL P o.op with
 | none=>rw[hr0]at hs;simp[hsem,cD]at hs
 | some q=>
 obtain⟨rop,xs⟩:=q;rw[hr0]at hs hρ0;simp only[aq₀]at hs hρ0;have hρ:=hρ0;cases rop with
 | l l=>
  simp only[aa₀,ad₀]at hs;obtain⟨v',hl,rfl,rfl⟩:=hs;obtain⟨cv,h1,h2⟩:=nO hr0 hρ hH.crel hl;unfold Oper.wp;rw[h1];exact hK cv φ w (Eff.refl hH) h2
 | h h=>
  by_cases hc:h.isCall=true
  ·cases h<;>simp[HOp.isCall]at hc
   rotate_left
   ·exact(wI hr0).elim
   obtain⟨dst,op,type,pos,after,guard⟩:=o;have hcallop:∃f args argTypes,op=.call ⟨.value f,args,argTypes⟩/\xs=f::args.toList:=by
    cases op<;>simp only[bL]at hr0
    case call c=>
     obtain⟨callee,args,argTypes⟩:=c;cases callee
     ·simp at hr0;exact⟨_,_,_,rfl,hr0.2.symm⟩
     ·simp at hr0
     ·rename_i b
      cases b<;>simp only at hr0
      all_goals repeat' (first|(simp at hr0;done)|split at hr0|(simp only[ae₀,aa₀]at hr0;obtain⟨_,_,hr0⟩:=hr0))
    case makeFunc fn first captured=>cases fn<;>simp at hr0
    all_goals (repeat' (first|(simp at hr0;done)|split at hr0|(simp only[ae₀,aa₀]at hr0;obtain⟨_,_,hr0⟩:=hr0)))
   obtain⟨f,args,argTypes,rfl,rfl⟩:=hcallop;simp only[cD,ag₀]at hs;have hf:=hρ f (by simp);have hargs:=LRel.map_left (az T) a.eval args.toList (fun x hx=>hρ x (by simp[hx]));generalize hfv:az T f=fv at hs hf;generalize hfc:a.eval f=fc at hf;cases hf<;>simp only[hsem]at hs<;>try (simp at hs;done)
   rename_i g first cap first' cap' hs1 hs2 hr1 hr2
   have hlo':lo<=(if raised then H.length else lo):=by split<;>omega
   have hlo2:(if raised then H.length else lo)<=H.length:=by split<;>omega
   obtain⟨⟨fn,hfn,hbody,hname⟩,hcalls⟩:=hcall _ g _ H v H' byO hlo2 hs;have hl:LRel φ (first.toList++args.toList.map (az T)++cap.toList) (first'.toList++args.toList.map a.eval++cap'.toList):=
    ((LRel.arr.2 ⟨hs1,hr1⟩).append hargs).append (LRel.arr.2 ⟨hs2,hr2⟩)
   have hcw:=hcalls φ w _ hH hl;unfold Oper.wp;rw[sO hfc hfn hbody hname];rw[Oper.upon_enter];have ha:(first'.toList++args.toList.map a.eval++cap'.toList).toArray=first'++args.map a.eval++cap':=by
    apply Array.toList_inj.1;simp
   rw[<-ha];refine hcw.mono fun e w' ⟨cv,φ',he,heff,hv⟩=>?_;subst he;exact hK cv φ' w' (heff.weaken hlo') hv
  ·have hc':h.isCall=false:=by simpa using hc
   have hsr:cD raised h=h:=by cases h<;>first|rfl|simp[HOp.isCall]at hc'
   simp only[hsr]at hs;obtain⟨nx,cv,w',φ',h1,h2,h3,h4⟩:=DJ hr0 hc' hρ hH hbl hs;unfold Oper.wp;rw[h1];rcases h2 with rfl|⟨rfl,rfl⟩
   ·exact hK cv φ' w' h3 h4
   ·exact hK undef φ' w' h3 h4
theorem Dp(hcall:fG P base G callA)(hbl:base<=lo)(hlo:lo<=H.length){raised:Bool}{o:Oper}{nt:Nat}(hT:Tmps ds φ nt T a)(hH:HRel φ base G H w)
  (hop:∀x ∈ (resolve P o.op).2,gu G x=true) {v:Value} {H':Heap}
  (hs:(match resolve P o.op with
   | (.l l,xs)=>(aJ l (xs.map (az T)) H).map fun v=>(v,H)
   | (.h h,xs)=>hsem callA lo (cD raised h) (xs.map (az T)) H)=some (v,H'))
  {K:Act->World->Prop} (hK:∀cv φ' w',Eff φ base G lo H w φ' H' w'->VRel φ' v cv->K (a.put o.dst cv) w'):o.wp P a w K Q:=
 zY hcall hbl hlo hH (fun x hx=>hT.eval hH.glob x (by
  have:=hop x hx;cases x<;>simp[gu,jv]at this ⊢<;>exact this)) hs hK
theorem n7(l2:List Nat)(hcall:fG P base G callA)(hbl:base<=lo){ops:List Oper}{raised:Nat->Bool}{nt:Nat}(hops:∀o ∈ ops,(∀d,o.dst=some d->d<nt)/\∀x ∈ (resolve P o.op).2,gu G x=true) :
  ∀(l:List Nat) (φ:Map) (H:Heap) (w:World) (T:Raw) (a:Act),lo<=H.length->Tmps ds φ nt T a->HRel φ base G H w->∀T' H',bT P callA lo ops raised l T H=some (T',H') ->
   (∀a' w' φ',Tmps ds φ' nt T' a'->Eff φ base G lo H w φ' H' w'->wpOps P ops.toArray Q l2 a' w')->wpOps P ops.toArray Q (l++l2) a w
 | [],φ,H,w,T,a,_,hT,hH,T',H',hr,hK=>by
  simp[bT]at hr;obtain⟨rfl,rfl⟩:=hr;exact hK a w φ hT (Eff.refl hH)
 | i::l,φ,H,w,T,a,hlo,hT,hH,T',H',hr,hK=>by
  simp only[bT]at hr;split at hr
  ·rename_i o ho
   split at hr
   ·rename_i T1 H1 hst
    obtain⟨hd,hop⟩:=hops o (List.mem_of_getElem? ho);rw[am₀,wpOps_cons];unfold wpOp;simp only[aj₀,ho];rw[mA hT o];unfold bY at hst;split at hst
    ·rename_i hw
     rw[hw];simp only[if_true];left;have key:∃v,(match resolve P o.op with
       | (.l l,xs)=>(aJ l (xs.map (az T)) H).map fun v=>(v,H)
       | (.h h,xs)=>hsem callA lo (cD (raised i) h) (xs.map (az T)) H)=some (v,H1)/\T1=eU T o.dst v:=by
      cases hres:resolve P o.op with
      | mk rop xs=>
      rw[hres]at hst;cases rop with
      | l l=>
       simp only at hst ⊢;split at hst
       ·rename_i v hv;simp at hst;obtain⟨rfl,rfl⟩:=hst;exact⟨v,by simp[hv],rfl⟩
       ·simp at hst
      | h h=>
       simp only at hst ⊢;split at hst
       ·rename_i v H2 hv;simp at hst;obtain⟨rfl,rfl⟩:=hst;exact⟨v,hv,rfl⟩
       ·simp at hst
     obtain⟨v,hv,rfl⟩:=key;refine Dp (raised:=raised i) hcall hbl hlo hT hH hop hv fun cv φ' w' heff hvr=>?_;exact n7 l2 hcall hbl hops l φ' H1 w' _ _ (Nat.le_trans hlo heff.keeps.1) ((hT.mono heff.le).put hd hvr) heff.rel T' H' hr
      (fun a' w'' φ'' h1 h2=>hK a' w'' φ'' h1 (Eff.trans heff h2))
    ·rename_i hw
     have hw':bR ops T o=false:=by simpa using hw
     rw[hw'];simp only[ah₀,if_false];simp at hst;obtain⟨rfl,rfl⟩:=hst;exact n7 l2 hcall hbl hops l φ H w _ _ hlo (hT.put hd gI) hH T' H' hr hK
   ·simp at hr
  ·simp at hr
theorem MS(hcall:fG P base G callA)(hbl:base<=lo){ops:List Oper}{raised:Nat->Bool}{nt:Nat}(hops:∀o ∈ ops,(∀d,o.dst=some d->d<nt)/\∀x ∈ (resolve P o.op).2,gu G x=true)
  (l:List Nat) (φ:Map) (H:Heap) (w:World) (T:Raw) (a:Act) (hlo:lo<=H.length) (hT:Tmps ds φ nt T a) (hH:HRel φ base G H w) (T' H') (hr:bT P callA lo ops raised l T H=some (T',H'))
  (hK:∀a' w' φ',Tmps ds φ' nt T' a'->Eff φ base G lo H w φ' H' w'->Q .normal a' w'):wpOps P ops.toArray Q l a w:=by
 have:=n7 (Q:=Q) [] hcall hbl hops l φ H w T a hlo hT hH T' H' hr hK;rwa [List.append_nil]at this
def pe(cv:Value):PanicEntry:={ v:=cv,recovered:=false }
def pY(P:Program)(base G:Nat)(callA:dm):Prop:=
 ∀lo f args H v H',base<=lo->lo<=H.length->callA lo f args H=some (v,H') ->
  (∃ fn, P.funcs[f]? = some fn ∧ fn.body.isSome = true ∧ fn.name ≠ "runtime.NumGoroutine") ∧
  ∀φ w cargs,HRel φ base G H w->LRel φ args cargs->Calls P f cargs.toArray w fun e w'=>∃cv φ',e=.panicked [pe cv]/\Eff φ base G lo H w φ' H' w'/\VRel φ' v cv
theorem wO{callR:CallR}(hpan:pY P base G callR.pan)(hbl:base<=lo)(hlo:lo<=H.length){raised:Bool}{o:Oper}{h:HOp}{xs:List Operand}(hH:HRel φ base G H w)
  (hres:resolve P o.op=(.h h,xs)) (hρ:∀x ∈ xs,VRel φ (az T x) (a.eval x)) {p:Value} {H':Heap}
  (hs:cm callR lo (cD raised h) (xs.map (az T)) H=some (p,H'))
  {K:Act->World->Prop} (hK:∀cv φ' w',Eff φ base G lo H w φ' H' w'->VRel φ' p cv->Q (.panic [pe cv]) a w'):o.wp P a w K Q:=by
 unfold resolve at hres;cases hr0:bL P o.op with
 | none=>rw[hr0]at hres;simp at hres;obtain⟨rfl,rfl⟩:=hres;simp[cm,cD]at hs
 | some q=>
 rw[hr0]at hres;simp only[aq₀]at hres;subst hres;obtain⟨dst,op,type,pos,after,guard⟩:=o;simp only at hr0;cases h<;>simp only[cD]at hs<;>try (simp[cm]at hs;done)
 ·rename_i r0
  cases raised<;>try (simp[cm]at hs;done)
  have hcallop:∃f args argTypes,op=.call ⟨.value f,args,argTypes⟩/\xs=f::args.toList:=by
   cases op<;>simp only[bL]at hr0
   case call c=>
    obtain⟨callee,args,argTypes⟩:=c;cases callee
    ·simp at hr0;exact⟨_,_,_,rfl,hr0.2.symm⟩
    ·simp at hr0
    ·rename_i b
     cases b<;>simp only at hr0
     all_goals repeat' (first|(simp at hr0;done)|split at hr0|(simp only[ae₀,aa₀]at hr0;obtain⟨_,_,hr0⟩:=hr0))
   case makeFunc fn first captured=>cases fn<;>simp at hr0
   all_goals (repeat' (first|(simp at hr0;done)|split at hr0|(simp only[ae₀,aa₀]at hr0;obtain⟨_,_,hr0⟩:=hr0)))
  obtain⟨f,args,argTypes,rfl,rfl⟩:=hcallop;simp only[ag₀]at hs;have hf:=hρ f (by simp);have hargs:=LRel.map_left (az T) a.eval args.toList (fun x hx=>hρ x (by simp[hx]));generalize hfv:az T f=fv at hs hf;generalize hfc:a.eval f=fc at hf;cases hf<;>simp only[cm]at hs<;>try (simp at hs;done)
  rename_i g first cap first' cap' hs1 hs2 hr1 hr2
  obtain⟨⟨fn,hfn,hbody,hname⟩,hcalls⟩:=hpan _ g _ H p H' hbl hlo hs;have hl:LRel φ (first.toList++args.toList.map (az T)++cap.toList) (first'.toList++args.toList.map a.eval++cap'.toList):=
   ((LRel.arr.2 ⟨hs1,hr1⟩).append hargs).append (LRel.arr.2 ⟨hs2,hr2⟩)
  have hcw:=hcalls φ w _ hH hl;unfold Oper.wp;rw[sO hfc hfn hbody hname];rw[Oper.upon_enter];have ha:(first'.toList++args.toList.map a.eval++cap'.toList).toArray=first'++args.map a.eval++cap':=by
   apply Array.toList_inj.1;simp
  rw[<-ha];refine hcw.mono fun e w' ⟨cv,φ',he,heff,hv⟩=>?_;subst he;exact hK cv φ' w' heff hv
 ·
  have hpop:∃x,op=.panic x/\xs=[x]:=by
   cases op<;>simp only[bL]at hr0
   case panic x=>simp at hr0;exact⟨x,rfl,hr0.symm⟩
   case call c=>
    obtain⟨callee,args,argTypes⟩:=c;cases callee
    ·simp at hr0
    ·simp at hr0
    ·rename_i b
     cases b<;>simp only at hr0
     all_goals repeat' (first|(simp at hr0;done)|split at hr0|(simp only[ae₀,aa₀]at hr0;obtain⟨_,_,hr0⟩:=hr0))
   case makeFunc fn first captured=>cases fn<;>simp at hr0
   all_goals (repeat' (first|(simp at hr0;done)|split at hr0|(simp only[ae₀,aa₀]at hr0;obtain⟨_,_,hr0⟩:=hr0)))
  obtain⟨x,rfl,rfl⟩:=hpop;have hx:=hρ x (by simp);simp only[ag₀,al₀]at hs;generalize hxv:az T x=xv at hs hx;generalize hxc:a.eval x=xc at hx;cases hx<;>simp only[cm]at hs<;>try (simp at hs;done)
  rename_i t v v' hv;simp at hs;obtain⟨rfl,rfl⟩:=hs;unfold Oper.wp;have:(execOp a.eval ⟨dst,.panic x,type,pos,after,guard⟩).run P w=.halt (.panic (.iface t v')) w:=by
   simp only[execOp,Sem.run_bind,hxc,Instr.panic,goPanic];rfl
  rw[this,Oper.upon_panic];exact hK _ φ w (Eff.refl hH) (.iface t v v' hv)
theorem HQ{callR:CallR}(hcall:fG P base G callR.ret)(hpan:pY P base G callR.pan)(hbl:base<=lo){ops:List Oper}{raised:Nat->Bool}{nt:Nat}(hops:∀o ∈ ops,(∀d,o.dst=some d->d<nt)/\∀x ∈ (resolve P o.op).2,gu G x=true)
  (l:List Nat) (hlo:lo<=H.length) (hT:Tmps ds φ nt T a) (hH:HRel φ base G H w) {p:Value} {T':Raw} {H':Heap} (hr:KC P callR lo ops raised l T H p T' H')
  (hK:∀a' w' φ' cv,Tmps ds φ' nt T' a'->Eff φ base G lo H w φ' H' w'->VRel φ' p cv->Q (.panic [pe cv]) a' w'):wpOps P ops.toArray Q l a w:=by
 obtain⟨l1,i,l2,H1,o,h,xs,rfl,q2,q3,q4,q5,q6⟩:=hr;refine n7 (i::l2) hcall hbl hops l1 φ H w T a hlo hT hH T' H1 q2 fun a1 w1 φ1 hT1 he1=>?_;obtain⟨hd,hop⟩:=hops o (List.mem_of_getElem? q3);rw[wpOps_cons];unfold wpOp;simp only[aj₀,q3];rw[mA hT1 o,q4];simp only[if_true];left;rw[q5]at hop;refine wO hpan hbl (Nat.le_trans hlo he1.keeps.1) he1.rel q5 (fun x hx=>hT1.eval he1.rel.glob x (by
  have:=hop x hx;cases x<;>simp[gu,jv]at this ⊢<;>exact this)) q6 fun cv φ' w' heff hv=>?_
 exact hK a1 w' φ' cv (hT1.mono heff.le) (Eff.trans he1 heff) hv
end
section
variable {ds:List Deferred}{P:Program}{Q:Exit->Act->World->Prop}
theorem Ey{c:Code}(J:Nat->Act->World->Prop){m:Nat}{a:Act}{w:World}(h₀:J m a w)
  (round:∀m a w,J m a w->c.wp P (Exit.then (fun a' w'=>∃m',m'<m/\J m' a' w') Q) a w):(Code.loop c).wp P Q a w:=by
 intro b k cs;have key:∀n a w,J n a w->∃e a' w',Q e a' w'/\Arrives P (lone (b.at a (.code c::.inLoop c::k)) cs w) b k cs e a' w':=by
  intro n
  induction n using Nat.strongRecOn with
  | _ n ih=>
   intro a w hJ;obtain⟨e,a₁,w₁,hq,harr⟩:=round n a w hJ b (.inLoop c::k) cs;cases e with
   | normal=>
    obtain⟨m',hlt,hJ₁⟩:=hq;obtain⟨e₂,a₂,w₂,hq₂,harr₂⟩:=ih m' hlt a₁ w₁ hJ₁;exact⟨e₂,a₂,w₂,hq₂,.of_steps (Steps.trans harr (.one step_inLoop)) harr₂⟩
   | exit id=>exact⟨_,a₁,w₁,hq,.pass (x:=.inLoop c) rfl (fun _ _=>.inl (by simp)) harr⟩
   | goto l=>exact⟨_,a₁,w₁,hq,.pass (x:=.inLoop c) rfl (fun _ _=>.inl (by simp)) harr⟩
   | ret=>exact⟨_,a₁,w₁,hq,.pass (x:=.inLoop c) rfl (fun _ _=>.inl (by simp)) harr⟩
   | panic ch=>exact⟨_,a₁,w₁,hq,.pass (x:=.inLoop c) rfl (fun _ _=>.inl (by simp)) harr⟩
   | outgrown=>exact⟨_,a₁,w₁,hq,.pass (x:=.inLoop c) rfl (fun _ _=>.inl (by simp)) harr⟩
 obtain⟨e,a',w',hq,harr⟩:=key _ a w h₀;exact⟨e,a',w',hq,.of_steps (.one step_loop) harr⟩
variable {callA:CallR}{base lo n:Nat}
def mQ(P:Program)(callA:CallR)(base:Nat):Prop:=
 (∀(lo:Nat) (Q:Exit->Act->World->Prop) (id nt:Nat) (ops:List Oper) (ds:List Deferred) (φ:Map) (H:Heap) (w:World) (T:Raw) (a:Act),base<=lo->lo<=H.length->opsOK P nt ops=true->fJ P ops=true ->
  Tmps ds φ nt T a->HRel φ base P.globals.size H w->∀T' H',bT P callA.ret lo ops (bS P ops true) (cz P ops true) T H=some (T',H')->mV P ops true T' ->
  (∀a' w' φ',Tmps ds φ' nt T' a'->Eff φ base P.globals.size lo H w φ' H' w'->Q .normal a' w')->(Code.region id ops.toArray true).wp P Q a w) /\
 (∀(lo:Nat) (Q:Exit->Act->World->Prop) (id nt:Nat) (ops:List Oper) (ds:List Deferred) (φ:Map) (H:Heap) (w:World) (T:Raw) (a:Act),base<=lo->lo<=H.length->opsOK P nt ops=true->fJ P ops=true ->
  Tmps ds φ nt T a->HRel φ base P.globals.size H w->∀p T' H',AL P callA lo ops true T H p T' H' ->
  (∀a' w' φ' cv,Tmps ds φ' nt T' a'->Eff φ base P.globals.size lo H w φ' H' w'->VRel φ' p cv->Q (.panic [pe cv]) a' w')->(Code.region id ops.toArray true).wp P Q a w)
def g9:Ex->Exit
 | .normal=>.normal
 | .exit i=>if bC<=i then .goto (i-bC) else .exit i
 | .ret=>.ret
theorem fy{i:Nat}(h:i<bC):g9 (.exit i)=.exit i:=if_neg byO
theorem lP{i:Nat}(h:bC<=i):g9 (.exit i)=.goto (i-bC):=if_pos h
theorem B0{K:Act->World->Prop}{Q:Exit->Act->World->Prop}{i:Nat}{a:Act}{w:World}(h:Q (g9 (.exit i)) a w):Exit.then K Q (g9 (.exit i)) a w:=by
 unfold g9 at *;simp only at *;split at h
 ·rename_i e;rw[if_pos e];exact h
 ·rename_i e;rw[if_neg e];exact h
def Kg(J:Nat->Act->World->Prop)(Q:Exit->Act->World->Prop):Exit->Act->World->Prop
 | .goto l,a,w=>J l a w
 | e,a,w=>Q e a w
theorem jF{J:Nat->Act->World->Prop}{Q:Exit->Act->World->Prop}{e:Exit}{a:Act}{w:World}(h:Q e a w)(hne:∀l,e≠.goto l):Kg J Q e a w:=by
 cases e with
 | goto l=>exact absurd rfl (hne l)
 | _=>exact h
theorem ur{c:Code}(J:Nat->Nat->Act->World->Prop){a:Act}{w:World}
  (first:c.wp P (Kg (fun l a' w'=>∃m,J m l a' w') Q) a w)
  (pass:∀m l a w,J m l a w->∃rest,findLabel c l=some rest/\rest.wp P (Kg (fun l' a' w'=>∃m',m'<m/\J m' l' a' w') Q) a w):(Code.scope c).wp P Q a w:=by
 intro b k cs;have key:∀n l a w,J n l a w->∃r e a' w',gotoIn l (.inScope c::k)=some (.code r::.inScope c::k)/\Q e a' w'/\Arrives P (lone (b.at a (.code r::.inScope c::k)) cs w) b k cs e a' w':=by
  intro n
  induction n using Nat.strongRecOn with
  | _ n ih=>
   intro l a w hJ;obtain⟨r,hf,hp⟩:=pass n l a w hJ;have hg:gotoIn l (.inScope c::k)=some (.code r::.inScope c::k):=by simp[gotoIn,hf]
   obtain⟨e,a₁,w₁,hq,harr⟩:=hp b (.inScope c::k) cs;cases e with
   | normal=>exact⟨r,.normal,a₁,w₁,hg,hq,Steps.trans harr (.one step_inScope)⟩
   | exit id=>exact⟨r,.exit id,a₁,w₁,hg,hq,fun k' hk=>harr k' (by simp[exitTo,hk])⟩
   | goto l'=>
    obtain⟨m',hlt,hJ'⟩:=hq;obtain⟨r₂,e₂,a₂,w₂,hg₂,hq₂,harr₂⟩:=ih _ hlt l' a₁ w₁ hJ';exact⟨r,e₂,a₂,w₂,hg,hq₂,.of_steps (harr _ hg₂) harr₂⟩
   | ret=>exact⟨r,_,a₁,w₁,hg,hq,harr⟩
   | panic ch=>exact⟨r,_,a₁,w₁,hg,hq,harr⟩
   | outgrown=>exact⟨r,_,a₁,w₁,hg,hq,harr⟩
 obtain⟨e,a₁,w₁,hq,harr⟩:=first b (.inScope c::k) cs
 cases e with
 | normal=>exact⟨.normal,a₁,w₁,hq,.head step_scope (Steps.trans harr (.one step_inScope))⟩
 | exit id=>exact⟨.exit id,a₁,w₁,hq,fun k' hk=>.head step_scope (harr k' (by simp[exitTo,hk]))⟩
 | goto l'=>
  obtain⟨m,hJ'⟩:=hq;obtain⟨r₂,e₂,a₂,w₂,hg₂,hq₂,harr₂⟩:=key m l' a₁ w₁ hJ';exact⟨e₂,a₂,w₂,hq₂,.of_steps (.head step_scope (harr _ hg₂)) harr₂⟩
 | ret=>exact⟨_,a₁,w₁,hq,.of_steps (.one step_scope) harr⟩
 | panic ch=>exact⟨_,a₁,w₁,hq,.of_steps (.one step_scope) harr⟩
 | outgrown=>exact⟨_,a₁,w₁,hq,.of_steps (.one step_scope) harr⟩
def KOK(P:Program)(base lo nt:Nat)(tr:List Nat)(ds:List Deferred)(Q:Exit->Act->World->Prop)(φ:Map)(H:Heap)(w:World)(ex:Ex)(S':List Value)(H':Heap):Prop:=
 (ex≠.exit cF->∀a' w' φ' T',dC tr S' T'->Tmps ds φ' nt T' a'->Eff φ base P.globals.size lo H w φ' H' w'->Q (g9 ex) a' w') /\
 (∀p S1,ex=.exit cF->S'=p::S1->∀a' w' φ' T' cv,dC tr S1 T'->Tmps ds φ' nt T' a'->Eff φ base P.globals.size lo H w φ' H' w'->VRel φ' p cv->Q (.panic [pe cv]) a' w')
theorem KOK.step{nt:Nat}{tr:List Nat}{φ φ1:Map}{H H1:Heap}{w w1:World}{ex:Ex}{S':List Value}{H':Heap}(hK:KOK P base lo nt tr ds Q φ H w ex S' H')(e:Eff φ base P.globals.size lo H w φ1 H1 w1):KOK P base lo nt tr ds Q φ1 H1 w1 ex S' H':=
 ⟨fun hne a' w' φ' T' h1 h2 h3=>hK.1 hne a' w' φ' T' h1 h2 (Eff.trans e h3),fun p S1 he hs a' w' φ' T' cv h1 h2 h3 h4=>hK.2 p S1 he hs a' w' φ' T' cv h1 h2 (Eff.trans e h3) h4⟩
theorem KOK.normal{nt:Nat}{tr:List Nat}{φ:Map}{H:Heap}{w:World}{S':List Value}{H':Heap}(h:∀a' w' φ' T',dC tr S' T'->Tmps ds φ' nt T' a'->Eff φ base P.globals.size lo H w φ' H' w'->Q .normal a' w'):KOK P base lo nt tr ds Q φ H w .normal S' H':=
 ⟨fun _=>h,fun _ _ e=>by cases e⟩
theorem KOK.imp{Q':Exit->Act->World->Prop}{nt:Nat}{tr:List Nat}{φ:Map}{H:Heap}{w:World}{ex:Ex}{S':List Value}{H':Heap}(hK:KOK P base lo nt tr ds Q φ H w ex S' H')
  (h1:ex≠.exit cF->∀a w,Q (g9 ex) a w->Q' (g9 ex) a w) (h2:∀c a w,Q (.panic c) a w->Q' (.panic c) a w):KOK P base lo nt tr ds Q' φ H w ex S' H':=
 ⟨fun hne a' w' φ' T' k1 k2 k3=>h1 hne _ _ (hK.1 hne a' w' φ' T' k1 k2 k3),fun p S1 he hs a' w' φ' T' cv k1 k2 k3 k4=>h2 _ _ _ (hK.2 p S1 he hs a' w' φ' T' cv k1 k2 k3 k4)⟩
theorem KOK.then{K:Act->World->Prop}{nt:Nat}{tr:List Nat}{φ:Map}{H:Heap}{w:World}{ex:Ex}{S':List Value}{H':Heap}(hK:KOK P base lo nt tr ds Q φ H w ex S' H')(hn:ex≠.normal):KOK P base lo nt tr ds (Exit.then K Q) φ H w ex S' H':=
 hK.imp (fun _ a w h=>by
  cases ex with
  | normal=>exact absurd rfl hn
  | exit i=>exact B0 h
  | ret=>exact h) (fun _ _ _ h=>h)
def wq(P:Program)(callA:CallR)(base lo nt:Nat)(tr:List Nat)(n:Nat)(c:Code)(st:Stm):Prop:=
 ∀(ds:List Deferred) (Q:Exit->Act->World->Prop) (φ:Map) (H:Heap) (w:World) (T:Raw) (a:Act) (S:List Value),dC tr S T->Tmps ds φ nt T a ->
   HRel φ base P.globals.size H w->lo<=H.length->∀ex S' H',exec callA lo n st S H=some (ex,S',H') ->
   KOK P base lo nt tr ds Q φ H w ex S' H'->c.wp P Q a w
theorem BX{tr:List Nat}{nt:Nat}:wq P callA base lo nt tr n .skip .skip:=by
 intro ds Q φ H w T a S hS hT hH hlo ex S' H' hx hK;simp[exec]at hx;obtain⟨rfl,rfl,rfl⟩:=hx;exact wp_skip (hK.1 (by simp) a w φ T hS hT (Eff.refl hH))
theorem E8{tr:List Nat}{nt:Nat}{x y:Code}{x' y':Stm}(hx':wq P callA base lo nt tr n x x')(hy':wq P callA base lo nt tr n y y'):wq P callA base lo nt tr n (.seq x y) (.seq x' y'):=by
 intro ds Q φ H w T a S hS hT hH hlo ex S' H' hx hK;refine wp_seq ?_;simp only[exec]at hx;split at hx
 ·rename_i S1 H1 hs
  exact hx' ds _ φ H w T a S hS hT hH hlo .normal S1 H1 hs (KOK.normal fun a1 w1 φ1 T1 k1 k2 k3=>
   hy' ds Q φ1 H1 w1 T1 a1 S1 k1 k2 k3.rel (Nat.le_trans hlo k3.keeps.1) ex S' H' hx (hK.step k3))
 ·rename_i hne
  exact hx' ds _ φ H w T a S hS hT hH hlo ex S' H' hx (hK.then fun e=>by subst e;exact hne _ _ hx)
def kS(ls:List (Nat×Stm)):Stm:=ls.foldr (fun x r=>.alt x.1 x.2 r) JM
theorem sN{l:Nat}{S:List Value}{H:Heap}:∀(ls:List (Nat×Stm)),exec callA lo n (kS ls) (.int .i64 ((l:Nat):Int)::S) H=match ls.find? (fun x=>x.1==l)with
  | some x=>exec callA lo n x.2 S H
  | none=>none
 | []=>rfl
 | (l',s)::ls=>by
  show exec callA lo n (.alt l' s (kS ls)) (.int .i64 ((l:Nat):Int)::S) H=_;simp only[exec,List.find?_cons];by_cases h:l'=l
  ·subst h
   simp
  ·have h1:(l'==l)=false:=beq_eq_false_iff_ne.2 h
   have h2:¬ ((l:Nat):Int)=((l':Nat):Int):=byO;rw[h1,if_neg h2];exact sN ls
theorem mr{tr:List Nat}{nt K:Nat}(ih:∀c:Code,SizeOf.sizeOf c<K->∀st,bH P tr c=some st->bW P nt c=true->wq P callA base lo nt tr n c st) :
  ∀(c:Code),SizeOf.sizeOf c<K->∀ls,cZ P tr c=some ls->bW P nt c=true->∀l,match ls.find? (fun x=>x.1==l)with
   | some x=>∃rest,findLabel c l=some rest/\wq P callA base lo nt tr n rest x.2
   | none=>findLabel c l=none
 | .seq x y,hk,ls,hc,hco,l=>by
  simp only[cZ]at hc;simp only[bW,ac₀]at hco;simp at hk;split at hc
  ·rename_i lb h1 h3
   simp at hc;subst hc;have a1:=mr ih x byO [] h1 hco.1 l;have a2:=mr ih y byO lb h3 hco.2 l;simp only[List.find?_nil]at a1;simp only[findLabel,a1];exact a2
  ·rename_i y0 la0 lb h1 h3
   split at hc
   ·rename_i y' h2
    generalize y0::la0=la at h1 hc;simp at hc;subst hc;have a1:=mr ih x byO la h1 hco.1 l;have a2:=mr ih y byO lb h3 hco.2 l;have hy:=ih y byO y' h2 hco.2;rw[List.find?_append,List.find?_map];cases hf:la.find? (fun x=>x.1==l)with
    | some z=>
     rw[hf]at a1;obtain⟨rest,r1,r2⟩:=a1;have:la.find? ((fun x=>x.1==l) ∘ fun x=>(x.1,Stm.seq x.2 y'))=some z:=hf;rw[this];exact⟨.seq rest y,by simp only[findLabel,r1],E8 r2 hy⟩
    | none=>
     rw[hf]at a1;have:la.find? ((fun x=>x.1==l) ∘ fun x=>(x.1,Stm.seq x.2 y'))=none:=hf;rw[this];simp only at a1;simp only[Option.map_none,Option.none_or,findLabel,a1];exact a2
   ·simp at hc
  ·simp at hc
 | .label l',hk,ls,hc,hco,l=>by
  simp only[cZ,ab₀]at hc;subst hc;simp only[List.find?_cons,List.find?_nil,findLabel];by_cases h:(l'==l)=true
  ·rw[h];exact⟨.skip,rfl,BX⟩
  ·rw[Bool.not_eq_true]at h
   rw[h];rfl
 | .region _ _ _,_,ls,hc,_,l=>by simp only[cZ,ab₀]at hc;subst hc;rfl
 | .cond _ _ _,_,ls,hc,_,l=>by simp only[cZ,ab₀]at hc;subst hc;rfl
 | .block _ _,_,ls,hc,_,l=>by simp only[cZ,ab₀]at hc;subst hc;rfl
 | .loop _,_,ls,hc,_,l=>by simp only[cZ,ab₀]at hc;subst hc;rfl
 | .exit _,_,ls,hc,_,l=>by simp only[cZ,ab₀]at hc;subst hc;rfl
 | .ret,_,ls,hc,_,l=>by simp only[cZ,ab₀]at hc;subst hc;rfl
 | .skip,_,ls,hc,_,l=>by simp only[cZ,ab₀]at hc;subst hc;rfl
 | .goto _,_,ls,hc,_,l=>by simp only[cZ,ab₀]at hc;subst hc;rfl
 | .scope _,_,ls,hc,_,l=>by simp[cZ]at hc
 | .rangeFunc _ _ _ _,_,ls,hc,_,l=>by simp[cZ]at hc
 | .refuse _,_,ls,hc,_,l=>by simp[cZ]at hc
theorem fM{nt:Nat}{ops:List Oper}(h:opsOK P nt ops=true):∀o ∈ ops,(∀d,o.dst=some d->d<nt)/\∀x ∈ (resolve P o.op).2,gu P.globals.size x=true:=by
 intro o ho;have:=List.all_eq_true.1 h o ho;simp only[ac₀]at this;refine⟨fun d hd=>?_,fun x hx=>List.all_eq_true.1 this.2 x hx⟩;rw[hd]at this;simpa using this.1
theorem tB(hcall:fG P base P.globals.size callA.ret)(hdraw:mQ P callA base)(hbl:base<=lo){id nt:Nat}{ops:Array Oper}{draw:Bool}{φ:Map}{H:Heap}{w:World}{T:Raw}{a:Act}(hlo:lo<=H.length)
  (hops:opsOK P nt ops.toList=true) (hdo:draw=true->fJ P ops.toList=true) (hT:Tmps ds φ nt T a) (hH:HRel φ base P.globals.size H w) {T':Raw} {H':Heap}
  (hr:bT P callA.ret lo ops.toList (bS P ops.toList draw) (cz P ops.toList draw) T H=some (T',H')) (hdist:mV P ops.toList draw T')
  (hK:∀a' w' φ',Tmps ds φ' nt T' a'->Eff φ base P.globals.size lo H w φ' H' w'->Q .normal a' w'):(Code.region id ops draw).wp P Q a w:=by
 have he:ops.toList.toArray=ops:=by simp
 cases draw
 ·refine wp_region ?_
  have:=MS (Q:=Q) hcall hbl (fM hops) (cz P ops.toList false) φ H w T a hlo hT hH T' H' hr hK;rw[he]at this;simpa[cz]using this
 ·have:=hdraw.1 lo Q id nt ops.toList ds φ H w T a hbl hlo hops (hdo rfl) hT hH T' H' hr hdist hK
  rw[he]at this;exact this
theorem rA(hcall:fG P base P.globals.size callA.ret)(hpan:pY P base P.globals.size callA.pan)(hdraw:mQ P callA base)(hbl:base<=lo){id nt:Nat}{ops:Array Oper}{draw:Bool}{φ:Map}{H:Heap}{w:World}{T:Raw}{a:Act}(hlo:lo<=H.length)
  (hops:opsOK P nt ops.toList=true) (hdo:draw=true->fJ P ops.toList=true) (hT:Tmps ds φ nt T a) (hH:HRel φ base P.globals.size H w) {p:Value} {T':Raw} {H':Heap}
  (hr:AL P callA lo ops.toList draw T H p T' H')
  (hK:∀a' w' φ' cv,Tmps ds φ' nt T' a'->Eff φ base P.globals.size lo H w φ' H' w'->VRel φ' p cv->Q (.panic [pe cv]) a' w'):(Code.region id ops draw).wp P Q a w:=by
 have he:ops.toList.toArray=ops:=by simp
 cases draw
 ·rcases hr with ⟨_,hr⟩|⟨h,_⟩
  ·refine wp_region ?_
   have:=HQ (Q:=Q) hcall hpan hbl (fM hops) _ hlo hT hH hr hK;simpa[cz]using this
  ·cases h
 ·have:=hdraw.2 lo Q id nt ops.toList ds φ H w T a hbl hlo hops (hdo rfl) hT hH p T' H' hr hK
  rw[he]at this;exact this
theorem jn{φ:Map}{nt:Nat}{T:Raw}{a:Act}(hT:Tmps ds φ nt T a){c:Operand}{b:Bool}(h:az T c=.bool b):a.eval c=.bool b:=by
 cases c with
 | tmp t=>
  have:=hT.rel t;simp only[az]at h;rw[h]at this;show a.tmps.getD t undef=_;generalize a.tmps.getD t undef=c at this;cases this;rfl
 | const v=>exact h
 | global g=>simp[az]at h
 | func f=>simp[az]at h
theorem mz(hcall:fG P base P.globals.size callA.ret)(hpan:pY P base P.globals.size callA.pan)(hdraw:mQ P callA base)(hbl:base<=lo){tr:List Nat}(hnd:Nd tr){nt:Nat} :
  ∀(k:Nat) (c:Code),SizeOf.sizeOf c<k->∀st,bH P tr c=some st->bW P nt c=true->∀(ds:List Deferred) (Q:Exit->Act->World->Prop) (φ:Map) (H:Heap) (w:World) (T:Raw) (a:Act) (S:List Value),dC tr S T->Tmps ds φ nt T a ->
   HRel φ base P.globals.size H w->lo<=H.length->∀ex S' H',exec callA lo n st S H=some (ex,S',H') ->
   KOK P base lo nt tr ds Q φ H w ex S' H'->c.wp P Q a w:=by
 intro k
 induction k with
 | zero=>intro c hk;omega
 | succ k ih=>
 intro c hk st hc hco ds Q φ H w T a S hS hT hH hlo ex S' H' hx hK;have fused:∀(id:Nat) (ops:Array Oper) (draw:Bool) (cd:Operand) (x y:Code) (l:List Stm) (e:E) (x' y':Stm),fY P tr ops.toList draw cd=some (l,e)->bH P tr x=some x'->bH P tr y=some y'->SizeOf.sizeOf x<k->SizeOf.sizeOf y<k ->
   opsOK P nt ops.toList=true->bW P nt x=true->bW P nt y=true->∀(Q:Exit->Act->World->Prop) (ex:Ex) (S':List Value) (H':Heap),exec callA lo n (df (l++[.cond e x' y'])) S H=some (ex,S',H') ->
   KOK P base lo nt tr ds Q φ H w ex S' H'->∀(Qr:Exit->Act->World->Prop),(∀a1 w1,(Code.cond cd x y).wp P Q a1 w1->Qr .normal a1 w1)->(∀c a1 w1,Q (.panic c) a1 w1->Qr (.panic c) a1 w1)->(Code.region id ops draw).wp P Qr a w:=by
  intro id ops draw cd x y l e x' y' hcs hcx hcy hsx hsy hops hox hoy Q ex S' H' hx hK Qr hQr hQp;rcases kL (xP hnd hcs hS) hx with ⟨S1,H1,g1,g2⟩|⟨rfl,p,S1,rfl,hP⟩;rotate_left
  ·obtain⟨hdo,T1,f1,f2⟩:=CP hnd hcs hS hP
   exact rA hcall hpan hdraw hbl hlo hops hdo hT hH f2 (fun a1 w1 φ1 cv h1 h2 h3=>hQp _ _ _ (hK.2 p S1 rfl rfl a1 w1 φ1 T1 cv f1 h1 h2 h3))
  simp only[exec]at g2;cases hv:ev1 S1 H1 e with
  | none=>rw[hv]at g2;simp at g2
  | some v=>
  obtain⟨hdo,T1,f1,f2,f3,f4⟩:=CQ hnd hcs hS g1 hv;refine tB hcall hdraw hbl hlo hops hdo hT hH f1 f3 fun a1 w1 φ1 hT1 heff1=>?_;rw[hv]at g2;refine hQr a1 w1 ?_;split at g2
  ·rename_i hb
   simp at hb;subst hb;exact wp_cond_true (jn hT1 f4) (ih x hsx x' hcx hox ds Q φ1 H1 w1 T1 a1 S1 f2 hT1 heff1.rel (Nat.le_trans hlo heff1.keeps.1) ex S' H' g2 (hK.step heff1))
  ·rename_i hb
   simp at hb;subst hb;exact wp_cond_false (jn hT1 f4) (ih y hsy y' hcy hoy ds Q φ1 H1 w1 T1 a1 S1 f2 hT1 heff1.rel (Nat.le_trans hlo heff1.keeps.1) ex S' H' g2 (hK.step heff1))
  ·simp at g2
 unfold bH at hc;split at hc
 ·
  simp at hc;subst hc;simp[exec]at hx;obtain⟨rfl,rfl,rfl⟩:=hx;exact wp_skip (hK.1 (by simp) a w φ T hS hT (Eff.refl hH))
 ·
  rename_i id ops draw;simp only[aa₀]at hc;obtain⟨l,hl,rfl⟩:=hc;have hops:opsOK P nt ops.toList=true:=by simpa[bW]using hco
  rcases jy hnd hl hS hx with ⟨rfl,hdo,T',f1,f2,f3⟩|⟨rfl,hdo,p,S1,T',rfl,f1,f2⟩
  ·exact tB hcall hdraw hbl hlo hops hdo hT hH f1 f3 (fun a' w' φ' h1 h2=>hK.1 (by simp) a' w' φ' T' f2 h1 h2)
  ·exact rA hcall hpan hdraw hbl hlo hops hdo hT hH f2 (fun a1 w1 φ1 cv h1 h2 h3=>hK.2 p S1 rfl rfl a1 w1 φ1 T' cv f1 h1 h2 h3)
 ·
  rename_i id ops draw cd x y;split at hc
  ·rename_i l e x' y' h1 h2 h3
   simp at hc;subst hc;simp only[bW,ac₀]at hco;simp at hk;exact wp_seq (fused id ops draw cd x y l e x' y' h1 h2 h3 byO byO hco.1 hco.2.1 hco.2.2 Q ex S' H' hx hK _ (fun a1 w1 h=>h) (fun _ _ _ h=>h))
  ·simp at hc
 ·
  rename_i id ops draw cd x y r;split at hc
  ·rename_i l e x' y' r' h1 h2 h3 h4
   simp at hc;subst hc;simp only[bW,ac₀]at hco;simp at hk;refine wp_seq ?_;simp only[exec]at hx;split at hx
   ·rename_i S1 H1 hs
    refine fused id ops draw cd x y l e x' y' h1 h2 h3 byO byO hco.1 hco.2.1.1 hco.2.1.2 (Exit.then (r.wp P Q) Q) .normal S1 H1 hs (KOK.normal fun a1 w1 φ1 T1 k1 k2 k3=>?_) _ (fun a1 w1 h=>wp_seq h) (fun _ _ _ h=>h);exact ih r byO r' h4 hco.2.2 ds Q φ1 H1 w1 T1 a1 S1 k1 k2 k3.rel (Nat.le_trans hlo k3.keeps.1) ex S' H' hx (hK.step k3)
   ·rename_i hne
    exact fused id ops draw cd x y l e x' y' h1 h2 h3 byO byO hco.1 hco.2.1.1 hco.2.1.2 (Exit.then (r.wp P Q) Q) ex S' H' hx (hK.then fun e=>by subst e;exact hne _ _ hx) _ (fun a1 w1 h=>wp_seq h) (fun _ _ _ h=>h)
  ·simp at hc
 ·
  rename_i x y _ _;split at hc
  ·rename_i x' y' h1 h2
   simp at hc;subst hc;simp only[bW,ac₀]at hco;simp at hk;refine wp_seq ?_;simp only[exec]at hx;split at hx
   ·rename_i S1 H1 hs
    exact ih x byO x' h1 hco.1 ds _ φ H w T a S hS hT hH hlo .normal S1 H1 hs (KOK.normal fun a1 w1 φ1 T1 k1 k2 k3=>
     ih y byO y' h2 hco.2 ds Q φ1 H1 w1 T1 a1 S1 k1 k2 k3.rel (Nat.le_trans hlo k3.keeps.1) ex S' H' hx (hK.step k3))
   ·rename_i hne
    exact ih x byO x' h1 hco.1 ds _ φ H w T a S hS hT hH hlo ex S' H' hx (hK.then fun e=>by subst e;exact hne _ _ hx)
  ·simp at hc
 ·
  rename_i cd x y;split at hc
  ·rename_i e x' y' h1 h2 h3
   simp at hc;subst hc;simp only[bW,ac₀]at hco;simp at hk;have he:=lZ (H:=H) hS h1;simp only[exec,he]at hx;split at hx
   ·rename_i hb
    simp at hb;exact wp_cond_true (jn hT hb) (ih x byO x' h2 hco.1 ds Q φ H w T a S hS hT hH hlo ex S' H' hx hK)
   ·rename_i hb
    simp at hb;exact wp_cond_false (jn hT hb) (ih y byO y' h3 hco.2 ds Q φ H w T a S hS hT hH hlo ex S' H' hx hK)
   ·simp at hx
  ·simp at hc
 ·
  rename_i i b;split at hc
  case isFalse=>simp at hc
  rename_i hig;simp only[aa₀]at hc;obtain⟨b',hb,rfl⟩:=hc;simp at hk;refine wp_block ?_;have hb1:∀c a w,Q (.panic c) a w->Exit.inBlock i Q (.panic c) a w:=fun _ _ _ h=>h;simp only[exec]at hx;split at hx
  ·rename_i j S1 H1 hs
   split at hx
   ·rename_i hj
    simp at hx;obtain⟨rfl,rfl,rfl⟩:=hx;refine ih b byO b' hb (by simpa[bW]using hco) ds _ φ H w T a S hS hT hH hlo (.exit j) _ _ hs ⟨fun _ a1 w1 φ1 T1 k1 k2 k3=>?_,fun p S2 e=>by cases e;unfold cF at *;omega⟩;have:=hK.1 (by simp) a1 w1 φ1 T1 k1 k2 k3;rw[fy (by unfold cF bC at *;omega)];simpa[g9,Exit.inBlock,hj]using this
   ·rename_i hj
    simp at hx;obtain⟨rfl,rfl,rfl⟩:=hx;refine ih b byO b' hb (by simpa[bW]using hco) ds _ φ H w T a S hS hT hH hlo (.exit j) _ _ hs (hK.imp (fun _ a1 w1 this=>?_) hb1);by_cases hg:bC<=j
    ·rw[lP hg]at this ⊢
     exact this
    ·rw[fy byO]at this ⊢
     simpa[Exit.inBlock,hj]using this
  ·rename_i hne
   refine ih b byO b' hb (by simpa[bW]using hco) ds _ φ H w T a S hS hT hH hlo ex S' H' hx (hK.imp (fun _ a1 w1 this=>?_) hb1);cases ex with
   | normal=>exact this
   | exit i=>exact absurd hx (hne _ _ _)
   | ret=>exact this
 ·
  rename_i b;simp only[aa₀]at hc;obtain⟨b',hb,rfl⟩:=hc;simp at hk;simp only[exec]at hx;refine Ey (fun m a1 w1=>∃S1 H1 φ1 T1,iter (exec callA lo n b') m S1 H1=some (ex,S',H')/\dC tr S1 T1/\Tmps ds φ1 nt T1 a1/\Eff φ base P.globals.size lo H w φ1 H1 w1) ⟨S,H,φ,T,hx,hS,hT,Eff.refl hH⟩ ?_;rintro m a1 w1 ⟨S1,H1,φ1,T1,hit,k1,k2,k3⟩;cases m with
  | zero=>simp[iter]at hit
  | succ m=>
   simp only[iter]at hit;split at hit
   ·rename_i S2 H2 hs
    exact ih b byO b' hb (by simpa[bW]using hco) ds _ φ1 H1 w1 T1 a1 S1 k1 k2 k3.rel (Nat.le_trans hlo k3.keeps.1) .normal S2 H2 hs
     (KOK.normal fun a2 w2 φ2 T2 q1 q2 q3=>⟨m,byO,S2,H2,φ2,T2,hit,q1,q2,Eff.trans k3 q3⟩)
   ·rename_i hne
    exact ih b byO b' hb (by simpa[bW]using hco) ds _ φ1 H1 w1 T1 a1 S1 k1 k2 k3.rel (Nat.le_trans hlo k3.keeps.1) ex S' H' hit ((hK.step k3).then fun e=>by subst e;exact hne _ _ hit)
 ·
  split at hc
  case isFalse=>simp at hc
  rename_i hig;simp at hc;subst hc;simp[exec]at hx;obtain⟨rfl,rfl,rfl⟩:=hx;have:=hK.1 (by simp;omega) a w φ T hS hT (Eff.refl hH);rw[fy (by unfold cF bC at *;omega)]at this;exact wp_exit this
 ·
  simp at hc;subst hc;simp[exec]at hx;obtain⟨rfl,rfl,rfl⟩:=hx;exact wp_ret (hK.1 (by simp) a w φ T hS hT (Eff.refl hH))
 ·
  simp at hc;subst hc;simp[exec]at hx;obtain⟨rfl,rfl,rfl⟩:=hx;exact wp_label (hK.1 (by simp) a w φ T hS hT (Eff.refl hH))
 ·
  rename_i l;simp at hc;subst hc;simp[exec]at hx;obtain⟨rfl,rfl,rfl⟩:=hx;have:=hK.1 (by simp;unfold cF bC;omega) a w φ T hS hT (Eff.refl hH);rw[lP byO,Nat.add_sub_cancel_left]at this;exact wp_goto this
 ·
  rename_i b;split at hc
  ·rename_i b' ls hb hls
   simp at hc;subst hc;simp at hk;have hcb:bW P nt b=true:=by simpa[bW]using hco
   have ih':∀c:Code,SizeOf.sizeOf c<k->∀st,bH P tr c=some st->bW P nt c=true->wq P callA base lo nt tr n c st:=fun c hk st h1 h2 ds Q φ H w T a S hS hT hH hlo ex S' H' hx hK=>ih c hk st h1 h2 ds Q φ H w T a S hS hT hH hlo ex S' H' hx hK;have hal:=mr ih' b byO ls hls hcb;have hx:hop (exec callA lo n (kS ls)) n (exec callA lo n b' S H)=some (ex,S',H'):=hx;refine ur (fun m l a1 w1=>∃S1 H1 φ1 T1,hop (exec callA lo n (kS ls)) m (exec callA lo n (kS ls) (.int .i64 ((l:Nat):Int)::S1) H1)=some (ex,S',H')/\dC tr S1 T1/\Tmps ds φ1 nt T1 a1/\Eff φ base P.globals.size lo H w φ1 H1 w1) ?_ ?_
   ·cases hs:exec callA lo n b' S H with
    | none=>rw[hs]at hx;cases n<;>simp[hop]at hx
    | some o=>
     obtain⟨ex1,S1,H1⟩:=o;rw[hs]at hx;refine ih b byO b' hb hcb ds _ φ H w T a S hS hT hH hlo ex1 S1 H1 hs ⟨fun hne a1 w1 φ1 T1 k1 k2 k3=>?_,fun p S2 e1 e2 a1 w1 φ1 T1 cv k1 k2 k3 k4=>?_⟩;rotate_left
     ·have:(ex1,S1,H1)=(ex,S',H'):=by subst e1;cases n<;>simpa[hop,cF,bC]using hx
      cases this;exact jF (hK.2 p S2 e1 e2 a1 w1 φ1 T1 cv k1 k2 k3 k4) (fun l h=>by cases h)
     have fin:∀{e:Exit},(ex1,S1,H1)=(ex,S',H')->g9 ex1=e->Q e a1 w1:=fun {e} he h1=>by
      cases he;have:=hK.1 hne a1 w1 φ1 T1 k1 k2 k3;rw[h1]at this;exact this
     cases ex1 with
     | normal=>exact jF (fin (by cases n<;>simpa[hop]using hx) rfl) (fun l h=>by cases h)
     | ret=>exact jF (fin (by cases n<;>simpa[hop]using hx) rfl) (fun l h=>by cases h)
     | exit j=>
      by_cases hg:bC<=j
      ·rw[lP hg]
       cases n with
       | zero=>simp[hop,hg]at hx
       | succ n'=>
        simp only[hop,if_pos hg]at hx;exact⟨n',S1,H1,φ1,T1,hx,k1,k2,k3⟩
      ·rw[fy byO]
       exact jF (fin (e:=.exit j) (by cases n<;>simpa[hop,hg]using hx) (fy byO)) (fun l h=>by cases h)
   ·rintro m l a1 w1 ⟨S1,H1,φ1,T1,hh,k1,k2,k3⟩
    rw[sN]at hh;have hl:=hal l;cases hf:ls.find? (fun x=>x.1==l)with
    | none=>rw[hf]at hh;cases m<;>simp[hop]at hh
    | some x=>
     rw[hf]at hh hl;obtain⟨rest,r1,r2⟩:=hl;refine⟨rest,r1,?_⟩;simp only at hh;cases hs:exec callA lo n x.2 S1 H1 with
     | none=>rw[hs]at hh;cases m<;>simp[hop]at hh
     | some o=>
      obtain⟨ex1,S2,H2⟩:=o;rw[hs]at hh;refine r2 ds _ φ1 H1 w1 T1 a1 S1 k1 k2 k3.rel (Nat.le_trans hlo k3.keeps.1) ex1 S2 H2 hs ⟨fun hne a2 w2 φ2 T2 q1 q2 q3=>?_,fun p S3 e1 e2 a2 w2 φ2 T2 cv q1 q2 q3 q4=>?_⟩;rotate_left
      ·have:(ex1,S2,H2)=(ex,S',H'):=by subst e1;cases m<;>simpa[hop,cF,bC]using hh
       cases this;exact jF (hK.2 p S3 e1 e2 a2 w2 φ2 T2 cv q1 q2 (Eff.trans k3 q3) q4) (fun l h=>by cases h)
      have q3:=Eff.trans k3 q3;have fin:∀{e:Exit},(ex1,S2,H2)=(ex,S',H')->g9 ex1=e->Q e a2 w2:=fun {e} he h1=>by
       cases he;have:=hK.1 hne a2 w2 φ2 T2 q1 q2 q3;rw[h1]at this;exact this
      cases ex1 with
      | normal=>exact jF (fin (by cases m<;>simpa[hop]using hh) rfl) (fun l h=>by cases h)
      | ret=>exact jF (fin (by cases m<;>simpa[hop]using hh) rfl) (fun l h=>by cases h)
      | exit j=>
       by_cases hg:bC<=j
       ·rw[lP hg]
        cases m with
        | zero=>simp[hop,hg]at hh
        | succ m'=>
         simp only[hop,if_pos hg]at hh;exact⟨m',byO,S2,H2,φ2,T2,hh,q1,q2,q3⟩
       ·rw[fy byO]
        exact jF (fin (e:=.exit j) (by cases m<;>simpa[hop,hg]using hh) (fy byO)) (fun l h=>by cases h)
  ·simp at hc
 ·simp at hc
 ·simp at hc
end
section
variable {ds:List Deferred}{P:Program}{base lo n:Nat}
def mn(P:Program)(cp:FuncId->Option CF):Prop:=∀f cf,cp f=some cf->∃tr,aE P tr f=some cf
theorem qj:∀{tr:List Nat},nodup tr=true->Nd tr
 | [],_=>fun i j t h=>by simp at h
 | x::r,h=>by
  simp only[nodup,ac₀,Bool.not_eq_true',List.contains_eq_mem,ai₀]at h;intro i j t hi hj;cases i with
  | zero=>
   cases j with
   | zero=>rfl
   | succ j=>simp at hi hj;subst hi;exact absurd (List.mem_of_getElem? hj) h.1
  | succ i=>
   cases j with
   | zero=>simp at hi hj;subst hj;exact absurd (List.mem_of_getElem? hi) h.1
   | succ j=>simp at hi hj;rw[qj h.2 i j t hi hj]
theorem yK{tr:List Nat}{φ:Map}{G nt:Nat}{H:Heap}{w:World}{T:Raw}{a:Act}{S:List Value}(hS:dC tr S T)(hT:Tmps ds φ nt T a)(hH:HRel φ base G H w) :
  ∀{rs:List ResultVar} {es:List E} {vs:List Value},iA P tr rs=some es->evList S H es=some vs ->
   ∃cs,LRel φ vs cs/\(rs.mapM (fun | .tmp t=>pure (a.tmps.getD t undef) | .cell x t=>do loadVar t (<-asAddr (a.tmps.getD x undef)):ResultVar->Sem Value)).run P w=.ok cs w
 | [],es,vs,h,hv=>by
  simp[iA]at h;subst h;simp[evList]at hv;subst hv;exact⟨[],LRel.nil φ,by simp⟩
 | .tmp t::rs,es,vs,h,hv=>by
  simp only[iA]at h;split at h
  ·rename_i j l hj hl
   simp at h;subst h;simp only[evList]at hv;split at hv
   ·rename_i v hev
    split at hv
    ·rename_i vs' hvs
     simp at hv;subst hv;obtain⟨cs,e1,e2⟩:=yK hS hT hH hl hvs;have:v=T t:=by
      have:=hS.2 j t (cu hj);simp[ev1,ev,this]at hev;exact hev.symm
     subst this;refine⟨a.tmps.getD t undef::cs,LRel.cons (hT.rel t) e1,?_⟩;rw[List.mapM_cons];simp only[Sem.run_bind,Sem.run_pure,Result.andThen_ok,e2]
    ·simp at hv
   ·simp at hv
  ·simp at h
 | .cell x t::rs,es,vs,h,hv=>by
  simp only[iA]at h;split at h
  ·rename_i j agg m l hj hagg hm hl
   simp at h;subst h;simp only[evList]at hv;split at hv
   ·rename_i v hev
    split at hv
    ·rename_i vs' hvs
     simp at hv;subst hv;obtain⟨cs,e1,e2⟩:=yK hS hT hH hl hvs;have hx:=hS.2 j x (cu hj);have hld:aJ (.ld m agg) [T x] H=some v:=by
      simp only[ev1,ev,hx,List.append_nil]at hev;cases hh:aJ (.ld m agg) [T x] H with
      | none=>simp[hh]at hev
      | some u=>simp[hh]at hev;rw[hev]
     obtain⟨cv,f1,f2⟩:=zL (P:=P) hH.crel hagg hm (hT.rel x) hld;refine⟨cv::cs,LRel.cons f2 e1,?_⟩;rw[List.mapM_cons];have:(do loadVar t (<-asAddr (a.tmps.getD x undef)):Sem Value).run P w=.ok cv w:=by
      have hr:=hT.rel x;generalize a.tmps.getD x undef=c at f1 hr ⊢;generalize T x=tx at hr hld;cases hr<;>simp only[aJ]at hld<;>try (simp at hld;done)
      simpa only[Instr.loadAt,Instr.sureAddr,asAddr]using f1
     simp only[Sem.run_bind]at this;simp only[Sem.run_bind,this,Result.andThen_ok,e2,Sem.run_pure]
    ·simp at hv
   ·simp at hv
  ·simp at h
theorem ub{φ:Map}{vs cs:List Value}(h:LRel φ vs cs):VRel φ (aM vs) (if h:cs.toArray.size=1 then cs.toArray[0] else .tuple cs.toArray):=by
 by_cases h1:vs.length=1
 ·obtain⟨v,rfl⟩:=List.length_eq_one_iff.1 h1
  obtain⟨c,r,rfl,hc,hr⟩:=h.of_cons;obtain rfl:=hr.of_nil;simpa[aM]using hc
 ·have hl:=h.1
  have e:aM vs=.tuple vs.toArray:=by
   unfold aM;split
   ·simp at h1
   ·rfl
  rw[e,dif_neg (by simp;omega)];exact .tuple _ _ (by simp[hl]) (by simpa using h.2)
def Ends(φ:Map):Value ⊕ Value->Value->Ending->Prop
 | .inl v,cv,e=>e=.returned cv/\VRel φ v cv
 | .inr v,cv,e=>e=.panicked [pe cv]/\VRel φ v cv
def RunOK(P:Program)(base G:Nat)(c:CallR):Prop:=
 ∀lo f args H r H',base<=lo->lo<=H.length->c lo f args H=some (r,H') ->
  (∃ fn, P.funcs[f]? = some fn ∧ fn.body.isSome = true ∧ fn.name ≠ "runtime.NumGoroutine") ∧
  ∀φ w cargs,HRel φ base G H w->LRel φ args cargs->Calls P f cargs.toArray w fun e w'=>∃cv φ',Ends φ' r cv e/\Eff φ base G lo H w φ' H' w'
theorem mh{c:CallR}{lo:Nat}{f:FuncId}{args:List Value}{H:Heap}{v:Value}{H':Heap}(h:c.ret lo f args H=some (v,H')):c lo f args H=some (.inl v,H'):=by
 unfold CallR.ret at h;split at h
 ·rename_i v2 H2 e;simp at h;obtain⟨rfl,rfl⟩:=h;exact e
 ·simp at h
theorem qp{c:CallR}{lo:Nat}{f:FuncId}{args:List Value}{H:Heap}{v:Value}{H':Heap}(h:c.pan lo f args H=some (v,H')):c lo f args H=some (.inr v,H'):=by
 unfold CallR.pan at h;split at h
 ·rename_i v2 H2 e;simp at h;obtain⟨rfl,rfl⟩:=h;exact e
 ·simp at h
theorem qI{c:CallR}{lo:Nat}{f:FuncId}{args:List Value}{H:Heap}{v:Value}{H':Heap}(h:c lo f args H=some (.inl v,H')):c.ret lo f args H=some (v,H'):=by
 simp only[CallR.ret,h]
theorem xS{c:CallR}{lo:Nat}{f:FuncId}{args:List Value}{H:Heap}{v:Value}{H':Heap}(h:c lo f args H=some (.inr v,H')):c.pan lo f args H=some (v,H'):=by
 simp only[CallR.pan,h]
theorem RunOK.toRet{G:Nat}{c:CallR}(h:RunOK P base G c):fG P base G c.ret:=fun lo f args H v H' h1 h2 h3=>
 let ⟨a,b⟩:=h lo f args H _ H' h1 h2 (mh h3)
 ⟨a,fun φ w cargs k1 k2=>(b φ w cargs k1 k2).mono fun _ _ ⟨cv,φ',q1,q2⟩=>⟨cv,φ',q1.1,q2,q1.2⟩⟩
theorem RunOK.toPan{G:Nat}{c:CallR}(h:RunOK P base G c):pY P base G c.pan:=fun lo f args H v H' h1 h2 h3=>
 let ⟨a,b⟩:=h lo f args H _ H' h1 h2 (qp h3)
 ⟨a,fun φ w cargs k1 k2=>(b φ w cargs k1 k2).mono fun _ _ ⟨cv,φ',q1,q2⟩=>⟨cv,φ',q1.1,q2,q1.2⟩⟩
theorem lB{tr:List Nat}{np:Nat}{args:List Value}(hl:args.length=np)(c1:tr.take np=List.range np)(c4:np<=tr.length)(hnd:Nd tr) :
  dC tr (args++List.replicate (tr.length-np) undef) (fun t=>args.getD t undef):=by
 subst hl;refine⟨by simp;omega,fun j t ht=>?_⟩;have hj:=(List.getElem?_eq_some_iff.1 ht).1;by_cases hlt:j<args.length
 ·have:tr[j]?=some j:=by
   have h2:(tr.take args.length)[j]?=some j:=by rw[c1,List.getElem?_range byO]
   rw[List.getElem?_take,if_pos byO]at h2;exact h2
  rw[ht]at this;simp at this;subst this;rw[ax₀ hlt];simp[hlt]
 ·have htge:args.length<=t:=by
   refine Decidable.byContradiction fun hc=>?_;have h2:tr[t]?=some t:=by
    have h2:(tr.take args.length)[t]?=some t:=by rw[c1,List.getElem?_range byO]
    rw[List.getElem?_take,if_pos byO]at h2;exact h2
   have:=hnd j t t ht h2;omega
  rw[aw₀ byO];simp[List.getElem?_replicate,htge];omega
theorem mi{φ:Map}{nt:Nat}{args cargs:List Value}(hargs:LRel φ args cargs)(hn:args.length<=nt) :
  Tmps [] φ nt (fun t=>args.getD t undef) { tmps:=cargs.toArray++Array.replicate (nt-cargs.toArray.size) undef,defers:=[] }:=by
 have hlen:cargs.length=args.length:=hargs.1.symm;refine⟨by simp;omega,fun t=>?_,rfl⟩;simp only[at₀];by_cases ht:t<args.length
 ·have h1:args[t]?=some args[t]:=bb₀ ht
  have h2:cargs[t]?=some (cargs[t]'byO):=bb₀ byO;rw[Array.getElem?_append_left (by simp;omega)];simp only[au₀,h1,aj₀,h2,aq₀];exact hargs.2 t _ _ h1 h2
 ·have h1:args[t]?=none:=av₀ byO
  rw[Array.getElem?_append_right (by simp;omega)];simp only[au₀,h1,Option.getD_none];have:((Array.replicate (nt-cargs.toArray.size) undef)[t-cargs.toArray.size]?).getD undef=undef:=by
   rw[Array.getElem?_replicate];split<;>rfl
  rw[this];exact gI
theorem mg{tr:List Nat}{φ:Map}{nt:Nat}{H:Heap}{w:World}{T:Raw}{a:Act}{S:List Value}{fn:Func}{es:List E}{vs:List Value}(hS:dC tr S T)(hT:Tmps ds φ nt T a)(hH:HRel φ base P.globals.size H w)
  (hres:iA P tr fn.results.toList=some es) (hvs:evList S H es=some vs):∃v,(results fn a.tmps).run P w=.ok v w/\VRel φ (aM vs) v:=by
 obtain⟨cs,f1,f2⟩:=yK (P:=P) hS hT hH hres hvs;refine⟨_,?_,ub f1⟩;unfold results;rw[Array.mapM_eq_mapM_toList];simp only[Sem.run_bind,Sem.run_map];refine Eq.trans (congrArg (fun r:Result (List Value)=>((r.andThen fun a w'=>.ok a.toArray w').andThen fun a w'=>(pure (if h:a.size=1 then a[0] else .tuple a):Sem Value).run P w')) f2) ?_;rfl
inductive Comp (P:Program) (tr:List Nat) (fn:Func) (c:Code) (r:List E):CF->Prop where
 | plain (b:Stm) (h:bH P tr c=some b) (hc:bW P fn.ntmps c=true):Comp P tr fn c r ⟨fn.params.size+fn.nfree,tr.length,r,b,.plain⟩
 | dfr (b:Stm) (id:Nat) (ops:Array Oper) (y:Code) (t j:Nat) (l:List Stm) (s:Stm) (h:py P tr fn.ntmps c=some (b,id,ops,y)) (ht:j2 ops.toList=some t) (hj:idxOf tr t=some j)
   (hl:fP P tr ops.toList.dropLast false=some l) (hs:bH P tr y=some s) (ho:opsOK P fn.ntmps ops.toList.dropLast=true) (hy:bW P fn.ntmps y=true):Comp P tr fn c r ⟨fn.params.size+fn.nfree,tr.length,r,b,.dfr (df l) j s⟩
 | rcv (id:Nat) (ops:Array Oper) (ops':List Oper) (t k:Nat) (rest:Code) (l:List Stm) (b:Stm) (h:FW c=some (id,ops,ops',t,rest)) (hk:idxOf tr t=some k) (hl:fP P tr ops' false=some l) (hb:bH P tr rest=some b)
   (ho:opsOK P fn.ntmps ops'=true) (hr:bW P fn.ntmps rest=true) (he:fn.results.isEmpty=true) (hnp:fn.params.size+fn.nfree<=t):Comp P tr fn c r ⟨fn.params.size+fn.nfree,tr.length,[],.seq (df l) b,.rcv k⟩
theorem nA {f : FuncId} {cf : CF} {tr : List Nat} (h : aE P tr f = some cf) : ∃ fn c r, P.funcs[f]? = some fn ∧ fn.body = some c ∧ fn.name ≠ "runtime.NumGoroutine" ∧ tr.take (fn.params.size + fn.nfree) = List.range (fn.params.size + fn.nfree) ∧ Nd tr ∧
  fn.params.size+fn.nfree<=tr.length/\fn.params.size+fn.nfree<=fn.ntmps/\(∀t ∈ tr,t<fn.ntmps)/\iA P tr fn.results.toList=some r/\Comp P tr fn c r cf:=by
 unfold aE at h;split at h<;>try (simp at h;done)
 rename_i fn hfn;split at h<;>try (simp at h;done)
 rename_i c hbody;simp only at h;split at h<;>try (simp at h;done)
 rename_i hcond;obtain⟨c1,c2,c3,c4,c5,c7⟩:=hcond;split at h<;>try (simp at h;done)
 rename_i r hres;refine⟨fn,c,r,hfn,hbody,c5,c1,qj c2,c4,c7,fun t ht=>by simpa using List.all_eq_true.1 c3 t ht,hres,?_⟩;split at h
 ·rename_i id ops ops' t rest hcut
  split at h<;>try (simp at h;done)
  rename_i k l b hk hl hb;split at h<;>try (simp at h;done)
  rename_i hc;simp at h;subst h;exact .rcv id ops ops' t k rest l b hcut hk hl hb hc.1 hc.2.1 hc.2.2.1 hc.2.2.2
 ·split at h
  ·rename_i b id ops y hD
   split at h<;>try (simp at h;done)
   rename_i j l s hj hl hs;split at h<;>try (simp at h;done)
   rename_i hc;simp at h;subst h;obtain⟨t,ht,hj⟩:=Option.bind_eq_some_iff.1 hj;exact .dfr b id ops y t j l s hD ht hj hl hs hc.1 hc.2
  ·split at h<;>try (simp at h;done)
   rename_i b hb;split at h<;>try (simp at h;done)
   rename_i hc;simp at h;subst h;exact .plain b hb hc
section deferred
variable {callA:CallR}
theorem ug{QS:Exit->Act->List Frame->World->Prop}{cs:List Frame}(hcall:fG P base P.globals.size callA.ret)(hbl:base<=lo){ops:List Oper}{raised:Nat->Bool}{nt:Nat}(hops:∀o ∈ ops,(∀d,o.dst=some d->d<nt)/\∀x ∈ (resolve P o.op).2,gu P.globals.size x=true) :
  ∀(l:List Nat) (φ:Map) (H:Heap) (w:World) (T:Raw) (a:Act),lo<=H.length->Tmps ds φ nt T a->HRel φ base P.globals.size H w->∀T' H',bT P callA.ret lo ops raised l T H=some (T',H') ->
   (∀a' w' φ',Tmps ds φ' nt T' a'->Eff φ base P.globals.size lo H w φ' H' w'->QS .normal a' cs w')->wpOpsS P ops.toArray QS l a cs w
 | [],φ,H,w,T,a,_,hT,hH,T',H',hr,hK=>by
  simp[bT]at hr;obtain⟨rfl,rfl⟩:=hr;exact hK a w φ hT (Eff.refl hH)
 | i::l,φ,H,w,T,a,hlo,hT,hH,T',H',hr,hK=>by
  simp only[bT]at hr;split at hr
  ·rename_i o ho
   split at hr
   ·rename_i T1 H1 hst
    obtain⟨hd,hop⟩:=hops o (List.mem_of_getElem? ho);simp only[wpOpsS,aj₀,ho];rw[mA hT o];unfold bY at hst;split at hst
    ·rename_i hw
     rw[hw];simp only[if_true];have key:∃v,(match resolve P o.op with
       | (.l l,xs)=>(aJ l (xs.map (az T)) H).map fun v=>(v,H)
       | (.h h,xs)=>hsem callA.ret lo (cD (raised i) h) (xs.map (az T)) H)=some (v,H1)/\T1=eU T o.dst v:=by
      cases hres:resolve P o.op with
      | mk rop xs=>
      rw[hres]at hst;cases rop with
      | l l=>
       simp only at hst ⊢;split at hst
       ·rename_i v hv;simp at hst;obtain⟨rfl,rfl⟩:=hst;exact⟨v,by simp[hv],rfl⟩
       ·simp at hst
      | h h=>
       simp only at hst ⊢;split at hst
       ·rename_i v H2 hv;simp at hst;obtain⟨rfl,rfl⟩:=hst;exact⟨v,hv,rfl⟩
       ·simp at hst
     obtain⟨v,hv,rfl⟩:=key;have hwp:=Dp (Q:=fun e a' w'=>QS e a' cs w') (K:=fun a' w'=>wpOpsS P ops.toArray QS l a' cs w') (raised:=raised i) hcall hbl hlo hT hH hop hv fun cv φ' w' heff hvr=>
      ug hcall hbl hops l φ' H1 w' _ _ (Nat.le_trans hlo heff.keeps.1) ((hT.mono heff.le).put hd hvr) heff.rel T' H' hr
      (fun a' w'' φ'' h1 h2=>hK a' w'' φ'' h1 (Eff.trans heff h2))
     unfold Oper.wp at hwp;generalize (execOp a.eval o).run P w=r at hwp;split
     ·exact hwp.elim
     ·exact hwp
    ·rename_i hw
     have hw':bR ops T o=false:=by simpa using hw
     rw[hw'];simp only[ah₀,if_false];simp at hst;obtain⟨rfl,rfl⟩:=hst;exact ug hcall hbl hops l φ H w _ _ hlo (hT.put hd gI) hH T' H' hr hK
   ·simp at hr
  ·simp at hr
theorem nW{ops ops2:List Oper}{r:Nat->Bool}(h:∀i,0<i->ops[i]?=ops2[i]?)(h0:(ops[0]?).map (·.dst)=(ops2[0]?).map (·.dst)):∀(l:List Nat),(∀i ∈ l,0<i)->∀T H,bT P callA.ret lo ops r l T H=bT P callA.ret lo ops2 r l T H
 | [],_,T,H=>rfl
 | i::l,hl,T,H=>by
  have hi:=hl i (by simp);simp only[bT,h i hi];cases ho:ops2[i]? with
  | none=>rfl
  | some o=>
   have hw:bR ops T o=bR ops2 T o:=by
    unfold bR;cases hgd:o.guard with
    | none=>rfl
    | some q=>
     obtain⟨j,b⟩:=q;simp only;cases j with
     | succ j=>rw[h (j+1) byO]
     | zero=>
      cases h1:ops[0]? with
      | none=>rw[h1]at h0;cases h2:ops2[0]? with
       | none=>rfl
       | some o2=>rw[h2]at h0;simp at h0
      | some o1=>
       rw[h1]at h0;cases h2:ops2[0]? with
       | none=>rw[h2]at h0;simp at h0
       | some o2=>rw[h2]at h0;simp at h0;simp only[h0]
   have hs:bY P callA.ret lo ops (r i) o T H=bY P callA.ret lo ops2 (r i) o T H:=by
    unfold bY;rw[hw]
   simp only[hs];split
   ·exact nW h h0 l (fun j hj=>hl j (by simp[hj])) _ _
   ·rfl
theorem C7{c:Code}{id:Nat}{ops:Array Oper}{ops':List Oper}{t:Nat}{rest:Code}(h:FW c=some (id,ops,ops',t,rest)) :
  c=.seq (.region id ops false) rest/\∃o l tys ty pos af,ops.toList=o::l/\o=⟨some t,.call ⟨.builtin .recover,#[],tys⟩,ty,pos,af,none⟩/\ops'={ o with op:=.move (.tmp t) }::l:=by
 unfold FW at h;split at h<;>try (simp at h;done)
 rename_i id0 ops0 draw rest0;split at h<;>try (simp at h;done)
 rename_i o l hl;split at h<;>try (simp at h;done)
 rename_i args tys t0 ho hd hg;split at h<;>try (simp at h;done)
 rename_i he;simp only[ab₀,ad₀]at h;obtain⟨rfl,rfl,rfl,rfl,rfl⟩:=h;obtain⟨dst,op,ty,pos,af,g⟩:=o;simp only at ho hd hg;subst ho hd hg;have:args=#[]:=by simpa using he
 subst this;exact⟨rfl,_,l,tys,ty,pos,af,hl,rfl,rfl⟩
def Mode(φ:Map)(u:FrameMode)(rv:Value):Prop:=(u=.returning/\rv=.nilIface)\/∃cv,u=.panicking [pe cv]/\VRel φ rv cv
theorem HN{cp:FuncId->Option CF}(hcp:mn P cp)(hrun:RunOK P base P.globals.size callA)(hdraw:mQ P callA base)(hbl:base<=lo){g:FuncId}{args cargs:List Value}{rv:Value}{H H3:Heap}{w:World}{φ:Map}{u:FrameMode}
  (h:mF cp callA lo n g args rv H=some H3) (hlo:lo<=H.length) (hH:HRel φ base P.globals.size H w) (hargs:LRel φ args cargs) (hu:Mode φ u rv) :
  (∃ fn, P.funcs[g]? = some fn ∧ fn.body.isSome = true ∧ fn.name ≠ "runtime.NumGoroutine") ∧ CallsD P g cargs.toArray u w fun e u' w' => (∃ v, e = .returned v) ∧ settle u' = .returning ∧ ∃ φ', Eff φ base P.globals.size lo H w φ' H3 w' := by
 unfold mF at h;cases hcf:cp g with
 | none=>rw[hcf]at h;simp at h
 | some cg=>
 rw[hcf]at h;obtain⟨tr,htr⟩:=hcp g cg hcf;obtain⟨fn,c,r,hfn,hbody,hname,c1,hnd,c4,c7,c3,hres,hC⟩:=nA htr;cases hC with
 | plain b hb hc=>simp at h
 | dfr=>simp at h
 | rcv id ops ops' t k rest l b hcut hk hl hb ho hr he hnp=>
 simp only at h;split at h<;>try (simp at h;done)
 rename_i hlen;refine⟨⟨fn,hfn,by simp[hbody],hname⟩,?_⟩;obtain⟨rfl,o,l',tys,ty,pos,af,hol,rfl,rfl⟩:=C7 hcut;have hops:ops=((⟨some t,.call ⟨.builtin .recover,#[],tys⟩,ty,pos,af,none⟩:Oper)::l').toArray:=by rw[<-hol]
 have hkl:k<tr.length:=(List.getElem?_eq_some_iff.1 (cu hk)).1;have htn:t<fn.ntmps:=c3 t (List.mem_of_getElem? (cu hk))
 let T0:Raw:=fun x=>if x=t then rv else args.getD x undef
 have hS0:dC tr ((args++List.replicate (tr.length-(fn.params.size+fn.nfree)) undef).set k rv) T0:=by
  have h0:=lB hlen c1 c4 hnd;refine⟨by rw[List.length_set];exact h0.1,fun j x hx=>?_⟩;by_cases hjk:k=j
  ·subst hjk
   have:x=t:=by have:=cu hk;rw[hx]at this;simpa using this
   subst this;simp only[T0,if_true];rw[List.getElem?_set_self (by rw[h0.1];exact hkl)]
  ·rw[List.getElem?_set_ne hjk,h0.2 j x hx]
   have:x≠t:=fun e=>hjk (hnd k j t (cu hk) (e▸hx));simp[T0,this]
 have hT0:=mi hargs (show args.length<=fn.ntmps by omega);have hrunB:∃ex S1 H1 S2,(ex=Ex.normal\/ex=.ret)/\exec callA lo n (df l) ((args++List.replicate (tr.length-(fn.params.size+fn.nfree)) undef).set k rv) H=some (.normal,S1,H1)/\exec callA lo n b S1 H1=some (ex,S2,H3):=by
  have fin:∀ex S2 H2,(ex=Ex.normal\/ex=.ret)->exec callA lo n (.seq (df l) b) ((args++List.replicate (tr.length-(fn.params.size+fn.nfree)) undef).set k rv) H=some (ex,S2,H2)->H2=H3->∃ex S1 H1 S2,(ex=Ex.normal\/ex=.ret)/\exec callA lo n (df l) ((args++List.replicate (tr.length-(fn.params.size+fn.nfree)) undef).set k rv) H=some (.normal,S1,H1)/\exec callA lo n b S1 H1=some (ex,S2,H3):=by
   intro ex S2 H2 hex hx he;subst he;simp only[exec]at hx;split at hx
   ·rename_i S1 H1 hs;exact⟨ex,S1,H1,S2,hex,hs,hx⟩
   ·rename_i hne
    rcases jy hnd hl hS0 hx with ⟨e1,_⟩|⟨e1,_⟩
    ·subst e1;exact absurd hx (hne _ _)
    ·subst e1;rcases hex with h|h<;>cases h
  split at h
  ·rename_i S2 H2 hx;simp at h;exact fin .normal S2 H2 (.inl rfl) hx h
  ·rename_i S2 H2 hx;simp at h;exact fin .ret S2 H2 (.inr rfl) hx h
  ·simp at h
 obtain⟨ex,S1,H1,S2,hex,hx1,hx2⟩:=hrunB;rcases jy hnd hl hS0 hx1 with ⟨_,_,T1,g1,g2,_⟩|⟨e1,_⟩;rotate_left
 ·cases e1
 have hrg:List.range (l'.length+1)=0::(List.range l'.length).map (·+1):=by rw[List.range_succ_eq_map]
 simp only[cz,ah₀,if_false,ak₀]at g1;rw[hrg]at g1;simp only[bT,List.getElem?_cons_zero]at g1;split at g1;rotate_left
 ·simp at g1
 rename_i Tx Hx hst;have hst2:Tx=T0/\Hx=H:=by
  simp only[bY,bR,if_true,Abs.resolve,bL,aq₀,ag₀,al₀,az,aJ]at hst;simp only[ab₀,ad₀]at hst;refine⟨?_,hst.2.symm⟩;rw[<-hst.1];funext x;simp only[eU];split
  ·rename_i e;rw[e]
  ·rfl
 rw[hst2.1,hst2.2]at g1;have hpos1:∀i ∈ (List.range l'.length).map (·+1),0<i:=fun i hi=>by
  obtain⟨j,_,rfl⟩:=List.mem_map.1 hi;exact Nat.succ_pos j
 rw[nW (ops:=(⟨some t,.move (.tmp t),ty,pos,af,none⟩:Oper)::l') (ops2:=(⟨some t,.call ⟨.builtin .recover,#[],tys⟩,ty,pos,af,none⟩:Oper)::l') (fun i hi=>by
   obtain⟨i',rfl⟩:∃i',i=i'+1:=⟨i-1,byO⟩;simp) rfl _ hpos1]at g1
 have hopsF:∀o ∈ ((⟨some t,.call ⟨.builtin .recover,#[],tys⟩,ty,pos,af,none⟩:Oper)::l'),(∀d,o.dst=some d->d<fn.ntmps)/\∀x ∈ (Abs.resolve P o.op).2,gu P.globals.size x=true:=by
  intro o ho';rcases List.mem_cons.1 ho' with rfl|ho'
  ·refine⟨fun d hd=>by simp only[ab₀]at hd;rw[<-hd];exact htn,fun x hx=>?_⟩
   simp[Abs.resolve,bL]at hx
  ·exact fM ho o (by simp[ho'])
 refine callsD_of_wpS hfn hbody fun c₀ cs hc0=>?_;refine wpS_seq (wpS_region ?_);have hsz:ops.size=l'.length+1:=by rw[hops];simp
 rw[hsz,hrg];simp only[wpOpsS];have h0:ops[0]?=some ⟨some t,.call ⟨.builtin .recover,#[],tys⟩,ty,pos,af,none⟩:=by rw[hops];simp
 rw[h0];simp only[Region.wanted,if_true];have hexec:∀(a:Act) (w:World),(execOp a.eval ⟨some t,.call ⟨.builtin .recover,#[],tys⟩,ty,pos,af,none⟩).run P w=.ok .recover w:=by
  intro a w;simp only[execOp,Go.resolve,Sem.run_bind,Sem.run_pure,Result.andThen_ok,invoke,builtin]
 rw[hexec];simp only;have go:∀(cv:Value) (u':FrameMode),VRel φ rv cv->settle u'=.returning->wpOpsS P ops (Exit.thenS (rest.wpS P (bodyPostS P fn c₀ cs fun e u' w'=>(∃v,e=.returned v)/\settle u'=.returning/\∃φ',Eff φ base P.globals.size lo H w φ' H3 w')) (bodyPostS P fn c₀ cs fun e u' w'=>(∃v,e=.returned v)/\settle u'=.returning/\∃φ',Eff φ base P.globals.size lo H w φ' H3 w'))
   ((List.range l'.length).map (·+1)) (({ tmps:=cargs.toArray++Array.replicate (fn.ntmps-cargs.toArray.size) undef,defers:=[] }:Act).put (some t) cv) ({ c₀ with mode:=u' }::cs) w:=by
  intro cv u' hcv hu';have hT1:Tmps [] φ fn.ntmps T0 (({ tmps:=cargs.toArray++Array.replicate (fn.ntmps-cargs.toArray.size) undef,defers:=[] }:Act).put (some t) cv):=by
   have:=hT0.put (dst:=some t) (fun d hd=>by cases hd;exact htn) hcv;exact this
  rw[hops];refine ug hrun.toRet hbl hopsF _ φ H w T0 _ hlo hT1 hH T1 H1 g1 fun a1 w1 φ1 hT2 he1=>?_;refine wpS_of_wp ?_;refine mz (n:=n) hrun.toRet hrun.toPan hdraw hbl hnd (SizeOf.sizeOf rest+1) rest byO b hb hr [] _ φ1 H1 w1 T1 a1 S1 g2 hT2 he1.rel (Nat.le_trans hlo he1.keeps.1) ex S2 H3 hx2 ⟨fun _ a2 w2 φ2 T2 h1 h2 h3=>?_,fun p S3 e=>by rcases hex with rfl|rfl<;>cases e⟩;have post:a2.defers=[]/\∃u2,({ c₀ with mode:=u' }::cs:List Frame)={ c₀ with mode:=u2 }::cs/\∃v,(results fn a2.tmps).run P w2=.ok v w2/\((∃v',Ending.returned v=.returned v')/\settle u2=.returning/\∃φ',Eff φ base P.globals.size lo H w φ' H3 w2):=by
   refine⟨h2.defers,u',rfl,.tuple #[],?_,⟨_,rfl⟩,hu',φ2,Eff.trans he1 h3⟩;have:fn.results=#[]:=by simpa using he
   simp[results,this]
  rcases hex with rfl|rfl
  ·exact post
  ·exact post
 rcases hu with ⟨rfl,rfl⟩|⟨cv,rfl,hcv⟩
 ·have hrec:recoverD (c₀::cs)=none:=by simp[recoverD,hc0]
  rw[hrec];simp only;have:=go .nilIface .returning .nilIface rfl;rw[show({ c₀ with mode:=.returning }:Frame)=c₀ by rw[<-hc0]]at this;exact this
 ·have hrec:recoverD (c₀::cs)=some (cv,{ c₀ with mode:=.panicking [{ v:=cv,recovered:=true }] }::cs):=by simp[recoverD,hc0,pe]
  rw[hrec];simp only;exact go cv (.panicking [{ v:=cv,recovered:=true }]) hcv rfl
theorem CN(hcall:fG P base P.globals.size callA.ret)(hpan:pY P base P.globals.size callA.pan)(hdraw:mQ P callA base)(hbl:base<=lo){tr:List Nat}(hnd:Nd tr){nt id:Nat}{ops:Array Oper}{y:Code} :
  ∀(c:Code) (s:Stm),py P tr nt c=some (s,id,ops,y)->∀(Q:Exit->Act->World->Prop) (φ:Map) (H:Heap) (w:World) (T:Raw) (a:Act) (S:List Value),dC tr S T->Tmps ds φ nt T a ->
   HRel φ base P.globals.size H w->lo<=H.length->∀ex S' H',exec callA lo n s S H=some (ex,S',H') ->
   KOK P base lo nt tr ds (Exit.then ((Code.seq (.region id ops false) y).wp P Q) Q) φ H w ex S' H'->c.wp P Q a w:=by
 have step:∀(x b:Code) (s:Stm) (x':Stm),(∀(Q:Exit->Act->World->Prop) (φ:Map) (H:Heap) (w:World) (T:Raw) (a:Act) (S:List Value),dC tr S T->Tmps ds φ nt T a ->
   HRel φ base P.globals.size H w->lo<=H.length->∀ex S' H',exec callA lo n s S H=some (ex,S',H') ->
   KOK P base lo nt tr ds (Exit.then ((Code.seq (.region id ops false) y).wp P Q) Q) φ H w ex S' H'->b.wp P Q a w)->bH P tr x=some x'->bW P nt x=true ->
   ∀(Q:Exit->Act->World->Prop) (φ:Map) (H:Heap) (w:World) (T:Raw) (a:Act) (S:List Value),dC tr S T->Tmps ds φ nt T a ->
   HRel φ base P.globals.size H w->lo<=H.length->∀ex S' H',exec callA lo n (.seq x' s) S H=some (ex,S',H') ->
   KOK P base lo nt tr ds (Exit.then ((Code.seq (.region id ops false) y).wp P Q) Q) φ H w ex S' H'->(Code.seq x b).wp P Q a w:=by
  intro x b s x' ih hx' hxo Q φ H w T a S hS hT hH hlo ex S' H' hx hK;refine wp_seq ?_;simp only[exec]at hx;split at hx
  ·rename_i S1 H1 hs
   exact mz hcall hpan hdraw hbl hnd (SizeOf.sizeOf x+1) x byO x' hx' hxo ds _ φ H w T a S hS hT hH hlo .normal S1 H1 hs (KOK.normal fun a1 w1 φ1 T1 k1 k2 k3=>
    ih Q φ1 H1 w1 T1 a1 S1 k1 k2 k3.rel (Nat.le_trans hlo k3.keeps.1) ex S' H' hx (hK.step k3))
  ·rename_i hne
   refine mz hcall hpan hdraw hbl hnd (SizeOf.sizeOf x+1) x byO x' hx' hxo ds _ φ H w T a S hS hT hH hlo ex S' H' hx (hK.imp (fun _ a w h=>?_) (fun _ _ _ h=>h));cases ex with
   | normal=>exact absurd hx (hne _ _)
   | exit i=>unfold g9 at *;simp only at *;split at h<;>rename_i hg<;>first|(rw[if_pos hg];exact h)|(rw[if_neg hg];exact h)
   | ret=>exact h
 intro c
 induction c with
 | seq x b _ ihb=>
  intro s hc;unfold py at hc;split at hc<;>try (simp at hc;done)
  ·rename_i id0 ops0 draw y0 heq
   cases heq;split at hc
   ·rename_i hd
    simp only[ab₀,ad₀]at hc;obtain⟨rfl,rfl,rfl,rfl⟩:=hc;simp only[ac₀,Bool.not_eq_true']at hd;obtain⟨rfl,_⟩:=hd;intro Q φ H w T a S hS hT hH hlo ex S' H' hx hK;simp[exec]at hx;obtain⟨rfl,rfl,rfl⟩:=hx;exact hK.1 (by simp) a w φ T hS hT (Eff.refl hH)
   ·split at hc<;>try (simp at hc;done)
    rename_i s0 r0 h0;split at hc<;>try (simp at hc;done)
    rename_i x' hx';split at hc<;>try (simp at hc;done)
    rename_i hxo;simp only[ab₀,ad₀]at hc;obtain⟨rfl,rfl⟩:=hc;exact step _ _ s0 x' (ihb s0 h0) hx' hxo
  ·rename_i x0 b0 hne heq
   cases heq;split at hc<;>try (simp at hc;done)
   rename_i s0 r0 h0;split at hc<;>try (simp at hc;done)
   rename_i x' hx';split at hc<;>try (simp at hc;done)
   rename_i hxo;simp only[ab₀,ad₀]at hc;obtain⟨rfl,rfl⟩:=hc;exact step _ _ s0 x' (ihb s0 h0) hx' hxo
 | _=>intro s hc;simp[py]at hc
theorem re{ops:List Oper}{t:Nat}(h:j2 ops=some t):∃tys ty pos af,ops=ops.dropLast++[⟨none,.defer ⟨.value (.tmp t),#[],tys⟩,ty,pos,af,none⟩]:=by
 unfold j2 at h;split at h<;>try (simp at h;done)
 rename_i o ho;split at h<;>try (simp at h;done)
 rename_i t0 args tys hop hd hg;split at h<;>try (simp at h;done)
 rename_i he;simp at h;subst h;have:args=#[]:=by simpa using he
 subst this;obtain⟨dst,op,ty,pos,af,g⟩:=o;simp only at hop hd hg;subst hop hd hg;refine⟨tys,ty,pos,af,?_⟩;have hne:ops≠[]:=by rintro rfl;simp at ho
 have h0:=List.dropLast_concat_getLast hne;have h1:ops.getLast hne=⟨none,.defer ⟨.value (.tmp t0),#[],tys⟩,ty,pos,af,none⟩:=by
  have hlen:ops.dropLast.length=ops.length-1:=by simp
  rw[List.getLast_eq_getElem];rw[hlen,bb₀ (by have:=List.length_pos_iff.2 hne;omega)]at ho;exact Option.some.inj ho
 rw[h1]at h0;exact h0.symm
theorem nX{ops':List Oper}{ol:Oper}{r:Nat->Bool}(hg:ol.dst=none):∀(l:List Nat),(∀i ∈ l,i<ops'.length)->∀T H,bT P callA.ret lo (ops'++[ol]) r l T H=bT P callA.ret lo ops' r l T H
 | [],_,T,H=>rfl
 | i::l,hl,T,H=>by
  have hi:=hl i (by simp);have ho:(ops'++[ol])[i]?=ops'[i]?:=ax₀ hi;have ho2:ops'[i]?=some ops'[i]:=bb₀ hi;simp only[bT,ho,ho2];have hw:bR (ops'++[ol]) T ops'[i]=bR ops' T ops'[i]:=by
   unfold bR;cases hgd:(ops'[i]).guard with
   | none=>rfl
   | some q=>
    obtain⟨j,b⟩:=q;simp only;by_cases hj:j<ops'.length
    ·rw[ax₀ hj]
    ·rw[aw₀ byO,av₀ (l:=ops') byO]
     by_cases hj2:j=ops'.length
     ·subst hj2;simp[hg]
     ·rw[av₀ (by simp;omega)]
  have hs:bY P callA.ret lo (ops'++[ol]) (r i) ops'[i] T H=bY P callA.ret lo ops' (r i) ops'[i] T H:=by
   unfold bY;rw[hw]
  rw[hs];split
  ·exact nX hg l (fun j hj=>hl j (by simp[hj])) _ _
  ·rfl
end deferred
theorem ES{cp:FuncId->Option CF}(hdraw:∀n,RunOK P base P.globals.size (run cp n)->mQ P (run cp n) base)(hcp:mn P cp):∀n,RunOK P base P.globals.size (run cp n)
 | 0=>fun lo f args H r H' _ _ h=>by simp[run]at h
 | n+1=>by
  intro lo f args H r H' hbl hlo h;have hrun:=ES hdraw hcp n;simp only[run]at h;cases hcf:cp f with
  | none=>rw[hcf]at h;simp at h
  | some cf=>
  rw[hcf]at h;simp only at h;split at h<;>try (simp at h;done)
  rename_i hnp;obtain⟨tr,htr⟩:=hcp f cf hcf;obtain⟨fn,c,res,hfn,hbody,hname,c1,hnd,c4,c7,c3,hres,hC⟩:=nA htr;refine⟨⟨fn,hfn,by simp[hbody],hname⟩,fun φ w cargs hH hargs=>?_⟩;cases hC with
  | plain body hcode c6=>
   simp only at h hnp;have hS:=lB hnp c1 c4 hnd;have hT:=mi hargs (show args.length<=fn.ntmps by omega);refine calls_of_wp hfn hbody ?_;have code:=fun(R:Ending->World->Prop) ex S' hx hK=>mz (n:=n) hrun.toRet hrun.toPan (hdraw n hrun) hbl hnd (SizeOf.sizeOf c+1) c byO body hcode c6 [] (bodyPost P fn R) φ H w _ _ _ hS hT hH hlo ex S' H' hx hK;have fin:∀ex S' ,(ex=Ex.normal\/ex=Ex.ret)->exec (run cp n) lo n body (args++List.replicate (tr.length-(fn.params.size+fn.nfree)) undef) H=some (ex,S',H') ->
     (∃vs,evList S' H' res=some vs/\r=.inl (aM vs)) ->
     c.wp P (bodyPost P fn (fun e w'=>∃cv φ',Ends φ' r cv e/\Eff φ base P.globals.size lo H w φ' H' w')) { tmps:=cargs.toArray++Array.replicate (fn.ntmps-cargs.toArray.size) undef,defers:=[] } w:=by
    rintro ex S' hex hx ⟨vs,hvs,rfl⟩;refine code _ ex S' hx ⟨fun _ a' w' φ' T' h1 h2 h3=>?_,fun p S1 e=>by rcases hex with rfl|rfl<;>cases e⟩;obtain⟨v,hv1,hv2⟩:=mg h1 h2 h3.rel hres hvs;have post:a'.defers=[]/\∃v,(results fn a'.tmps).run P w'=.ok v w'/\∃cv φ',Ends φ' (.inl (aM vs)) cv (Ending.returned v)/\Eff φ base P.globals.size lo H w φ' H' w':=
     ⟨h2.defers,_,hv1,_,φ',⟨rfl,hv2⟩,h3⟩
    rcases hex with rfl|rfl
    ·exact post
    ·exact post
   split at h
   ·rename_i S' H1 hx
    split at h
    ·rename_i vs hvs
     simp at h;obtain⟨rfl,rfl⟩:=h;exact fin .normal S' (.inl rfl) hx ⟨vs,hvs,rfl⟩
    ·simp at h
   ·rename_i S' H1 hx
    split at h
    ·rename_i vs hvs
     simp at h;obtain⟨rfl,rfl⟩:=h;exact fin .ret S' (.inr rfl) hx ⟨vs,hvs,rfl⟩
    ·simp at h
   ·rename_i j p S' H1 hx
    split at h
    ·rename_i hj
     simp at h;obtain⟨rfl,rfl⟩:=h;subst hj;refine code _ _ _ hx ⟨fun hne=>absurd rfl hne,fun p' S1 _ e a' w' φ' T' cv h1 h2 h3 h4=>?_⟩;cases e;exact⟨h2.defers,cv,φ',⟨rfl,h4⟩,h3⟩
    ·simp at h
   ·simp at h
  | rcv=>simp at h
  | dfr body id ops y t j l s hcode ht hj hl hs ho hy=>
   simp only at h hnp;have hS:=lB hnp c1 c4 hnd;have hT:=mi hargs (show args.length<=fn.ntmps by omega);refine calls_of_wp_defers hfn hbody ?_;have code:=fun(R:Ending->World->Prop) ex S' H1 hx hK=>CN (n:=n) hrun.toRet hrun.toPan (hdraw n hrun) hbl hnd c body hcode (bodyPostD P fn R) φ H w _ _ _ hS hT hH hlo ex S' H1 hx hK;unfold kA at h;split at h
   ·
    rename_i S H1 hx;unfold rB at h;split at h<;>try (simp at h;done)
    rename_i vs hvs;simp at h;obtain⟨rfl,rfl⟩:=h;refine code _ _ _ _ hx ⟨fun _ a' w' φ' T' h1 h2 h3=>?_,fun p S1 e=>by cases e⟩;obtain⟨v,hv1,hv2⟩:=mg h1 h2 h3.rel hres hvs;show Leaves P fn a'.tmps _ a'.defers .returning w';rw[h2.defers];exact⟨v,hv1,_,φ',⟨rfl,hv2⟩,h3⟩
   ·
    rename_i i p S H1 hx;split at h<;>try (simp at h;done)
    rename_i hi;simp at h;obtain⟨rfl,rfl⟩:=h;subst hi;refine code _ _ _ _ hx ⟨fun hne=>absurd rfl hne,fun p' S1 _ e a' w' φ' T' cv h1 h2 h3 h4=>?_⟩;cases e;show Leaves P fn a'.tmps _ a'.defers (.panicking [pe cv]) w';rw[h2.defers];exact⟨cv,φ',⟨rfl,h4⟩,h3⟩
   ·rename_i S H1 hx
    split at h<;>try (simp at h;done)
    rename_i S1 H2 hm;split at h<;>try (simp at h;done)
    rename_i g first cap hfv
    refine code _ _ _ _ hx (KOK.normal fun a1 w1 φ1 T1 k1 k2 k3=>?_);obtain⟨tys,ty,pos,af,hops⟩:=re ht;rcases jy hnd hl k1 hm with ⟨_,_,T2,g1,g2,_⟩|⟨e1,_⟩;rotate_left
    ·cases e1
    have hlen2:ops.size=ops.toList.dropLast.length+1:=by
     have:ops.toList.length=(ops.toList.dropLast++[(⟨none,.defer ⟨.value (.tmp t),#[],tys⟩,ty,pos,af,none⟩:Oper)]).length:=congrArg List.length hops;simpa using this
    have hlo1:=Nat.le_trans hlo k3.keeps.1;refine wp_seq (wp_region ?_);rw[hlen2,List.range_succ];have hoa:ops=(ops.toList.dropLast++[(⟨none,.defer ⟨.value (.tmp t),#[],tys⟩,ty,pos,af,none⟩:Oper)]).toArray:=by rw[<-hops]
    have hopsF:∀o ∈ ops.toList.dropLast++[(⟨none,.defer ⟨.value (.tmp t),#[],tys⟩,ty,pos,af,none⟩:Oper)],(∀d,o.dst=some d->d<fn.ntmps)/\∀x ∈ (Abs.resolve P o.op).2,gu P.globals.size x=true:=by
     intro o ho';rcases List.mem_append.1 ho' with ho'|ho'
     ·exact fM ho o ho'
     ·simp at ho';subst ho'
      exact⟨fun d hd=>by simp at hd,fun x hx=>by simp[Abs.resolve,bL]at hx⟩
    simp only[cz,ah₀,if_false]at g1;rw[<-nX (ol:=(⟨none,.defer ⟨.value (.tmp t),#[],tys⟩,ty,pos,af,none⟩:Oper)) rfl _ (fun i hi=>by simpa using hi)]at g1;generalize hopsn:ops.toList.dropLast=ops' at *;rw[hoa];refine n7 [ops'.length] hrun.toRet hbl hopsF _ φ1 H1 w1 T1 a1 hlo1 k2 k3.rel T2 H2 g1 fun a2 w2 φ2 q1 q2=>?_;have e2:=Eff.trans k3 q2;have hfv2:T2 t=.func (.func g) first cap:=by
     have:=g2.2 j t (cu hj);rw[hfv]at this;simpa using this.symm
    have hfr:=q1.rel t;rw[hfv2]at hfr;generalize hfc:a2.tmps.getD t undef=fc at hfr;cases hfr with
    | func _ _ _ first' cap' hs1 hs2 hr1 hr2=>
    rw[wpOps_cons];unfold wpOp;simp only[aj₀,aw₀ (Nat.le_refl _),Nat.sub_self,List.getElem?_cons_zero,Region.wanted,if_true];left;unfold Oper.wp;have hexec:(execOp a2.eval (⟨none,.defer ⟨.value (.tmp t),#[],tys⟩,ty,pos,af,none⟩:Oper)).run P w2=.ok (.defer { target:=.fn (.func g) cap',args:=first'++#[] }) w2:=by
     have he:a2.eval (.tmp t)=.func (.func g) first' cap':=hfc;simp only[execOp,Go.resolve,he,Deferred.ofValue,Sem.run_bind,Sem.run_pure,Result.andThen_ok];simp
    rw[hexec,Oper.upon_defer];have hT3:Tmps [{ target:=.fn (.func g) cap',args:=first'++#[] }] φ2 fn.ntmps T2 (({ a2 with defers:={ target:=.fn (.func g) cap',args:=first'++#[] }::a2.defers }:Act).put none undef):=by
     refine⟨q1.size,q1.rel,?_⟩;show _::a2.defers=_;rw[q1.defers]
    have hargsR:∀{φ3:Map},φ2.le φ3->LRel φ3 (first.toList++cap.toList) (first'.toList++cap'.toList):=fun hle=>
     ((LRel.arr.2 ⟨hs1,hr1⟩).append (LRel.arr.2 ⟨hs2,hr2⟩)).mono hle
    have rest:=fun(R:Ending->World->Prop) ex S' H3 hx hK=>mz (n:=n) hrun.toRet hrun.toPan (hdraw n hrun) hbl hnd (SizeOf.sizeOf y+1) y byO s hs hy _ (bodyPostD P fn R) φ2 H2 w2 T2 _ S1 g2 hT3 q2.rel (Nat.le_trans hlo1 q2.keeps.1) ex S' H3 hx hK;have leave:∀(S2:List Value) (H3 H4:Heap) (rv:Value) (u:FrameMode) (a3:Act) (w3:World) (φ3:Map) (T3:Raw),dC tr S2 T3->Tmps [{ target:=.fn (.func g) cap',args:=first'++#[] }] φ3 fn.ntmps T3 a3->Eff φ2 base P.globals.size lo H2 w2 φ3 H3 w3->Mode φ3 u rv->u≠.run ->
      mF cp (run cp n) lo n g (first.toList++cap.toList) rv H3=some H4->rB res S2 H4=some (r,H') ->
      Leaves P fn a3.tmps (fun e w'=>∃cv φ',Ends φ' r cv e/\Eff φ base P.globals.size lo H w φ' H' w') a3.defers u w3:=by
     intro S2 H3 H4 rv u a3 w3 φ3 T3 r1 r2 r3 hmode hune hrr hres2;have hlo3:lo<=H3.length:=Nat.le_trans (Nat.le_trans hlo1 q2.keeps.1) r3.keeps.1;obtain⟨⟨fng,hfng,hbg,hng⟩,hcd⟩:=HN (n:=n) hcp hrun (hdraw n hrun) hbl hrr hlo3 r3.rel (hargsR r3.le) hmode;rw[r2.defers];unfold rB at hres2;split at hres2<;>try (simp at hres2;done)
     rename_i vs hvs;simp at hres2;obtain⟨rfl,rfl⟩:=hres2;have hinv:(invoke (.fn (.func g) cap') (first'++#[])).run P w3=.ok (.enter g (first'.toList++cap'.toList).toArray) w3:=by
      have hb':fng.body.isNone=false:=by cases h:fng.body<;>simp_all
      have hn' : (fng.name == "runtime.NumGoroutine") = false := by simpa using hng
      simp only[invoke,callFunc,Sem.run_bind,run_program,hfng,Result.andThen_ok];rw[if_neg (by simp[hn']),if_neg (by simp[hb'])];simp
     refine leaves_cons hune hinv (hcd.mono fun e u' w4 ⟨⟨v,hv⟩,hset,φ4,heff⟩=>?_);subst hv;show Leaves P fn a3.tmps _ [] (settle u') w4;rw[hset];obtain⟨v2,hv1,hv2⟩:=mg r1 (r2.mono heff.le) heff.rel hres hvs;exact⟨v2,hv1,_,φ4,⟨rfl,hv2⟩,Eff.trans e2 (Eff.trans r3 heff)⟩
    split at h
    ·rename_i S2 H3 hx3
     split at h<;>try (simp at h;done)
     rename_i H4 hrr;exact rest _ _ _ _ hx3 ⟨fun _ a3 w3 φ3 T3 r1 r2 r3=>leave S2 H3 H4 _ .returning a3 w3 φ3 T3 r1 r2 r3 (.inl ⟨rfl,rfl⟩) (by simp) hrr h,fun p S3 e=>by cases e⟩
    ·rename_i S2 H3 hx3
     split at h<;>try (simp at h;done)
     rename_i H4 hrr;exact rest _ _ _ _ hx3 ⟨fun _ a3 w3 φ3 T3 r1 r2 r3=>leave S2 H3 H4 _ .returning a3 w3 φ3 T3 r1 r2 r3 (.inl ⟨rfl,rfl⟩) (by simp) hrr h,fun p S3 e=>by cases e⟩
    ·rename_i i p S2 H3 hx3
     split at h<;>try (simp at h;done)
     rename_i hi;split at h<;>try (simp at h;done)
     rename_i H4 hrr;subst hi;refine rest _ _ _ _ hx3 ⟨fun hne=>absurd rfl hne,fun p' S3 _ e a3 w3 φ3 T3 cv r1 r2 r3 r4=>?_⟩;cases e;exact leave S2 H3 H4 p (.panicking [pe cv]) a3 w3 φ3 T3 r1 r2 r3 (.inr ⟨cv,rfl,r4⟩) (by simp) hrr h
    ·simp at h
   ·simp at h
end
end Go.Abs
