/- One operation in the model: what it does where the abstract machine answers. Code, functions, calls: the abstract machine is sound. Functions: what the abstract machine answers to a call is what the program answers. -/
import Derived.Test.YtkeagffmmhllcaaGreatPD3
import Derived.Orders
set_option linter.unusedVariables false
set_option linter.unusedSimpArgs false
set_option linter.unusedSectionVars false
namespace Go.Abs
section
variable {P:Program}{callA:CallA}{base G lo:Nat}{φ:Map}{H:Heap}{w:World}{T:Raw}{a:Act}{Q:Exit→Act→World→Prop}
structure Tmps (φ:Map)(nt:Nat)(T:Raw)(a:Act):Prop where
 size:a.tmps.size=nt
 rel:∀t,VRel φ (T t) (a.tmps.getD t undef)
 defers:a.defers=[]
theorem Tmps.mono{ψ:Map}{nt:Nat}(h:φ.le ψ)(r:Tmps φ nt T a):Tmps ψ nt T a:=⟨r.size,fun t=>(r.rel t).mono h,r.defers⟩
theorem Tmps.put{nt:Nat}(r:Tmps φ nt T a){dst:Option Nat}(hd:∀d,dst=some d→d<nt){v c:Value}(hv:VRel φ v c):Tmps φ nt (putT T dst v) (a.put dst c):=by
 cases dst with
 | none=>exact⟨r.size,r.rel,r.defers⟩
 | some d=>
  refine⟨by simp[Act.put,r.size],fun t=>?_,r.defers⟩
  have hlt:d<a.tmps.size:=by rw[r.size];exact hd d rfl
  simp only[putT,Act.put]
  by_cases e:t=d
  ·subst e;simp[hlt];exact hv
  ·have:=r.rel t
   simp only[e,if_false]
   have e2:(a.tmps.setIfInBounds d c).getD t undef=a.tmps.getD t undef:=by
    simp[Array.getD_eq_getD_getElem?,Array.getElem?_setIfInBounds]
    split
    ·rename_i h;exact absurd h.symm e
    ·rfl
   rw[e2];exact this
theorem Tmps.eval{nt:Nat}(r:Tmps φ nt T a)(hg:∀g,g<G→∃n,φ g=some ⟨g,0,n⟩)(x:Operand)(hx:match x with | .const v=>plainV v=true | .global g=>g<G|_=>True):VRel φ (evalT T x) (a.eval x):=by
 cases x with
 | tmp t=>exact r.rel t
 | const v=>exact plainV_rel φ hx
 | global g=>obtain⟨n,hn⟩:=hg g hx;exact .ptr g 0 _ hn
 | func f=>exact .func f #[] #[] #[] #[] rfl rfl (fun j x y hx=>by simp at hx) (fun j x y hx=>by simp at hx)
abbrev opdOK:=opdOKB
theorem wanted_ok{ops:List Oper}{nt:Nat}(r:Tmps φ nt T a)(o:Oper):Region.wanted o (yielded ops.toArray a.tmps)=wantT ops T o:=by
 unfold Region.wanted wantT
 cases hg:o.guard with
 | none=>rfl
 | some q=>
  obtain⟨j,want⟩:=q
  simp only[yielded,List.getElem?_toArray]
  cases hj:ops[j]? with
  | none=>rfl
  | some oj=>
   simp only[Option.bind_some]
   cases hd:oj.dst with
   | none=>rfl
   | some t=>
    simp only[Option.bind_some,boolAt]
    have:=r.rel t
    rw[Array.getD_eq_getD_getElem?]at this
    cases ht:a.tmps[t]? with
    | none=>
     rw[ht]at this
     simp only[Option.getD_none]at this
     generalize T t=v at this
     unfold undef at this
     cases this<;>rfl
    | some c=>
     rw[ht]at this
     simp only[Option.getD_some]at this
     generalize T t=v at this ⊢
     cases this<;>simp
def CallOK(P:Program)(base G:Nat)(callA:CallA):Prop:=
 ∀lo f args H v H',base≤lo→lo≤H.length→callA lo f args H=some (v,H') →
  (∃ fn, P.funcs[f]? = some fn ∧ fn.body.isSome = true ∧ fn.name ≠ "runtime.NumGoroutine") ∧
  ∀φ w cargs,HRel φ base G H w→LRel φ args cargs→Calls P f cargs.toArray w fun e w'=>∃cv φ',e=.returned cv∧Eff φ base G lo H w φ' H' w'∧VRel φ' v cv
theorem Eff.weaken{φ':Map}{lo':Nat}{H':Heap}{w':World}(h:lo≤lo')(e:Eff φ base G lo' H w φ' H' w'):Eff φ base G lo H w φ' H' w':=
 ⟨e.le,e.rel,e.keeps,e.size,fun b hb hn=>e.keep b hb (fun i c p hi=>hn i c p (Nat.le_trans h hi)),
  fun i p hi hp=>(e.fresh i p hi hp).imp id (fun⟨j,c,q,h1,h2⟩=>⟨j,c,q,Nat.le_trans h h1,h2⟩),e.os,e.out,e.frz⟩
theorem exec_call{ρ:Operand→Value}{dst:Option Tmp}{f:Operand}{args:Array Operand}{argTypes:Array TypeId}{type:TypeId}{pos:String}{after:Array Edge}{guard:Option (Nat×Bool)}{g:FuncId}{first cap:Array Value}{fn:Func}
  (hf : ρ f = .func (.func g) first cap) (hfn : P.funcs[g]? = some fn) (hb : fn.body.isSome = true) (hn : fn.name ≠ "runtime.NumGoroutine") :
  (execOp ρ ⟨dst,.call ⟨.value f,args,argTypes⟩,type,pos,after,guard⟩).run P w=.ok (.enter g (first++args.map ρ++cap)) w:=by
 have hb':fn.body.isNone=false:=by cases h:fn.body<;>simp_all
 have hn' : (fn.name == "runtime.NumGoroutine") = false := by simpa using hn
 simp only[execOp,Go.resolve,Sem.run_bind,hf,Deferred.ofValue,Sem.run_pure,Result.andThen_ok,invoke,callFunc,run_program,hfn]
 rw[if_neg (by simp[hn']),if_neg (by simp[hb'])]
 rfl
theorem op_core(hcall:CallOK P base G callA)(hbl:base≤lo)(hlo:lo≤H.length){raised:Bool}{o:Oper}(hH:HRel φ base G H w)
  (hρ0:∀x ∈ (resolve P o.op).2,VRel φ (evalT T x) (a.eval x)) {v:Value} {H':Heap}
  (hs:(match resolve P o.op with
   | (.l l,xs)=>(lsem l (xs.map (evalT T)) H).map fun v=>(v,H)
   | (.h h,xs)=>hsem callA lo (setRaise raised h) (xs.map (evalT T)) H)=some (v,H'))
  {K:Act→World→Prop} (hK:∀cv φ' w',Eff φ base G lo H w φ' H' w'→VRel φ' v cv→K (a.put o.dst cv) w'):o.wp P a w K Q:=by
 unfold resolve at hs hρ0
 cases hr0:resolve0 P o.op with
 | none=>rw[hr0]at hs;simp[hsem,setRaise]at hs
 | some q=>
 obtain⟨rop,xs⟩:=q
 rw[hr0]at hs hρ0
 simp only[Option.getD_some]at hs hρ0
 have hρ:=hρ0
 cases rop with
 | l l=>
  simp only[Option.map_eq_some_iff,Prod.mk.injEq]at hs
  obtain⟨v',hl,rfl,rfl⟩:=hs
  obtain⟨cv,h1,h2⟩:=light_ok hr0 hρ hH.crel hl
  unfold Oper.wp
  rw[h1]
  exact hK cv φ w (Eff.refl hH) h2
 | h h=>
  by_cases hc:h.isCall=true
  ·cases h<;>simp[HOp.isCall]at hc
   obtain⟨dst,op,type,pos,after,guard⟩:=o
   have hcallop:∃f args argTypes,op=.call ⟨.value f,args,argTypes⟩∧xs=f::args.toList:=by
    cases op<;>simp only[resolve0]at hr0
    case call c=>
     obtain⟨callee,args,argTypes⟩:=c
     cases callee
     ·simp at hr0;exact⟨_,_,_,rfl,hr0.2.symm⟩
     ·simp at hr0
     ·rename_i b
      cases b<;>simp only at hr0
      all_goals repeat' (first|(simp at hr0;done)|split at hr0|(simp only[Option.bind_eq_some_iff,Option.map_eq_some_iff]at hr0;obtain⟨_,_,hr0⟩:=hr0))
    case makeFunc fn first captured=>cases fn<;>simp at hr0
    all_goals (repeat' (first|(simp at hr0;done)|split at hr0|(simp only[Option.bind_eq_some_iff,Option.map_eq_some_iff]at hr0;obtain⟨_,_,hr0⟩:=hr0)))
   obtain⟨f,args,argTypes,rfl,rfl⟩:=hcallop
   simp only[setRaise,List.map_cons]at hs
   have hf:=hρ f (by simp)
   have hargs:=LRel.map_left (evalT T) a.eval args.toList (fun x hx=>hρ x (by simp[hx]))
   generalize hfv:evalT T f=fv at hs hf
   generalize hfc:a.eval f=fc at hf
   cases hf<;>simp only[hsem]at hs<;>try (simp at hs;done)
   rename_i g first cap first' cap' hs1 hs2 hr1 hr2
   have hlo':lo≤(if raised then H.length else lo):=by split<;>omega
   have hlo2:(if raised then H.length else lo)≤H.length:=by split<;>omega
   obtain⟨⟨fn,hfn,hbody,hname⟩,hcalls⟩:=hcall _ g _ H v H' (by omega) hlo2 hs
   have hl:LRel φ (first.toList++args.toList.map (evalT T)++cap.toList) (first'.toList++args.toList.map a.eval++cap'.toList):=
    ((LRel.arr.2 ⟨hs1,hr1⟩).append hargs).append (LRel.arr.2 ⟨hs2,hr2⟩)
   have hcw:=hcalls φ w _ hH hl
   unfold Oper.wp
   rw[exec_call hfc hfn hbody hname]
   rw[Oper.upon_enter]
   have ha:(first'.toList++args.toList.map a.eval++cap'.toList).toArray=first'++args.map a.eval++cap':=by
    apply Array.toList_inj.1;simp
   rw[←ha]
   refine hcw.mono fun e w' ⟨cv,φ',he,heff,hv⟩=>?_
   subst he
   exact hK cv φ' w' (heff.weaken hlo') hv
  ·have hc':h.isCall=false:=by simpa using hc
   have hsr:setRaise raised h=h:=by cases h<;>first|rfl|simp[HOp.isCall]at hc'
   simp only[hsr]at hs
   obtain⟨nx,cv,w',φ',h1,h2,h3,h4⟩:=heavy_ok hr0 hc' hρ hH hbl hs
   unfold Oper.wp
   rw[h1]
   rcases h2 with rfl|⟨rfl,rfl⟩
   ·exact hK cv φ' w' h3 h4
   ·exact hK undef φ' w' h3 h4
theorem op_ok(hcall:CallOK P base G callA)(hbl:base≤lo)(hlo:lo≤H.length){raised:Bool}{o:Oper}{nt:Nat}(hT:Tmps φ nt T a)(hH:HRel φ base G H w)
  (hop:∀x ∈ (resolve P o.op).2,opdOK G x=true) {v:Value} {H':Heap}
  (hs:(match resolve P o.op with
   | (.l l,xs)=>(lsem l (xs.map (evalT T)) H).map fun v=>(v,H)
   | (.h h,xs)=>hsem callA lo (setRaise raised h) (xs.map (evalT T)) H)=some (v,H'))
  {K:Act→World→Prop} (hK:∀cv φ' w',Eff φ base G lo H w φ' H' w'→VRel φ' v cv→K (a.put o.dst cv) w'):o.wp P a w K Q:=
 op_core hcall hbl hlo hH (fun x hx=>hT.eval hH.glob x (by
  have:=hop x hx
  cases x<;>simp[opdOK,opdOKB]at this ⊢<;>exact this)) hs hK
theorem seq_ok(hcall:CallOK P base G callA)(hbl:base≤lo){ops:List Oper}{raised:Nat→Bool}{nt:Nat}(hops:∀o ∈ ops,(∀d,o.dst=some d→d<nt)∧∀x ∈ (resolve P o.op).2,opdOK G x=true) :
  ∀(l:List Nat) (φ:Map) (H:Heap) (w:World) (T:Raw) (a:Act),lo≤H.length→Tmps φ nt T a→HRel φ base G H w→∀T' H',rawRun P callA lo ops raised l T H=some (T',H') →
   (∀a' w' φ',Tmps φ' nt T' a'→Eff φ base G lo H w φ' H' w'→Q .normal a' w')→wpOps P ops.toArray Q l a w
 | [],φ,H,w,T,a,_,hT,hH,T',H',hr,hK=>by
  simp[rawRun]at hr;obtain⟨rfl,rfl⟩:=hr
  exact hK a w φ hT (Eff.refl hH)
 | i::l,φ,H,w,T,a,hlo,hT,hH,T',H',hr,hK=>by
  simp only[rawRun]at hr
  split at hr
  ·rename_i o ho
   split at hr
   ·rename_i T1 H1 hst
    obtain⟨hd,hop⟩:=hops o (List.mem_of_getElem? ho)
    rw[wpOps_cons]
    unfold wpOp
    simp only[List.getElem?_toArray,ho]
    rw[wanted_ok hT o]
    unfold rawStep at hst
    split at hst
    ·rename_i hw
     rw[hw]
     simp only[if_true]
     left
     have key:∃v,(match resolve P o.op with
       | (.l l,xs)=>(lsem l (xs.map (evalT T)) H).map fun v=>(v,H)
       | (.h h,xs)=>hsem callA lo (setRaise (raised i) h) (xs.map (evalT T)) H)=some (v,H1)∧T1=putT T o.dst v:=by
      cases hres:resolve P o.op with
      | mk rop xs=>
      rw[hres]at hst
      cases rop with
      | l l=>
       simp only at hst ⊢
       split at hst
       ·rename_i v hv;simp at hst;obtain⟨rfl,rfl⟩:=hst;exact⟨v,by simp[hv],rfl⟩
       ·simp at hst
      | h h=>
       simp only at hst ⊢
       split at hst
       ·rename_i v H2 hv;simp at hst;obtain⟨rfl,rfl⟩:=hst;exact⟨v,hv,rfl⟩
       ·simp at hst
     obtain⟨v,hv,rfl⟩:=key
     refine op_ok (raised:=raised i) hcall hbl hlo hT hH hop hv fun cv φ' w' heff hvr=>?_
     exact seq_ok hcall hbl hops l φ' H1 w' _ _ (Nat.le_trans hlo heff.keeps.1) ((hT.mono heff.le).put hd hvr) heff.rel T' H' hr
      (fun a' w'' φ'' h1 h2=>hK a' w'' φ'' h1 (Eff.trans heff h2))
    ·rename_i hw
     have hw':wantT ops T o=false:=by simpa using hw
     rw[hw']
     simp only[Bool.false_eq_true,if_false]
     simp at hst;obtain⟨rfl,rfl⟩:=hst
     exact seq_ok hcall hbl hops l φ H w _ _ hlo (hT.put hd undef_rel) hH T' H' hr hK
   ·simp at hr
  ·simp at hr
end
end Go.Abs
namespace Go.Abs
section
variable {P:Program}{Q:Exit→Act→World→Prop}
theorem wp_loopJ{c:Code}(J:Nat→Act→World→Prop){m:Nat}{a:Act}{w:World}(h₀:J m a w)
  (round:∀m a w,J m a w→c.wp P (Exit.then (fun a' w'=>∃m',m'<m∧J m' a' w') Q) a w):(Code.loop c).wp P Q a w:=by
 intro b k cs
 have key:∀n a w,J n a w→∃e a' w',Q e a' w'∧Arrives P (lone (b.at a (.code c::.inLoop c::k)) cs w) b k cs e a' w':=by
  intro n
  induction n using Nat.strongRecOn with
  | _ n ih=>
   intro a w hJ
   obtain⟨e,a₁,w₁,hq,harr⟩:=round n a w hJ b (.inLoop c::k) cs
   cases e with
   | normal=>
    obtain⟨m',hlt,hJ₁⟩:=hq
    obtain⟨e₂,a₂,w₂,hq₂,harr₂⟩:=ih m' hlt a₁ w₁ hJ₁
    exact⟨e₂,a₂,w₂,hq₂,.of_steps (Steps.trans harr (.one step_inLoop)) harr₂⟩
   | exit id=>exact⟨_,a₁,w₁,hq,.pass (x:=.inLoop c) rfl (fun _ _=>.inl (by simp)) harr⟩
   | goto l=>exact⟨_,a₁,w₁,hq,.pass (x:=.inLoop c) rfl (fun _ _=>.inl (by simp)) harr⟩
   | ret=>exact⟨_,a₁,w₁,hq,.pass (x:=.inLoop c) rfl (fun _ _=>.inl (by simp)) harr⟩
   | panic ch=>exact⟨_,a₁,w₁,hq,.pass (x:=.inLoop c) rfl (fun _ _=>.inl (by simp)) harr⟩
   | outgrown=>exact⟨_,a₁,w₁,hq,.pass (x:=.inLoop c) rfl (fun _ _=>.inl (by simp)) harr⟩
 obtain⟨e,a',w',hq,harr⟩:=key _ a w h₀
 exact⟨e,a',w',hq,.of_steps (.one step_loop) harr⟩
variable {callA:CallA}{base lo n:Nat}
def DrawOK(P:Program)(callA:CallA)(base:Nat):Prop:=
 ∀(lo:Nat) (Q:Exit→Act→World→Prop) (id nt:Nat) (ops:List Oper) (φ:Map) (H:Heap) (w:World) (T:Raw) (a:Act),base≤lo→lo≤H.length→opsOK P nt ops=true→drawOK P ops=true →
  Tmps φ nt T a→HRel φ base P.globals.size H w→∀T' H',rawRun P callA lo ops (raisedFn P ops true) (orderOf P ops true) T H=some (T',H')→distOK P ops true T' →
  (∀a' w' φ',Tmps φ' nt T' a'→Eff φ base P.globals.size lo H w φ' H' w'→Q .normal a' w')→(Code.region id ops.toArray true).wp P Q a w
def exitOf:Ex→Exit
 | .normal=>.normal
 | .exit i=>.exit i
 | .ret=>.ret
theorem opsOK_spec{nt:Nat}{ops:List Oper}(h:opsOK P nt ops=true):∀o ∈ ops,(∀d,o.dst=some d→d<nt)∧∀x ∈ (resolve P o.op).2,opdOK P.globals.size x=true:=by
 intro o ho
 have:=List.all_eq_true.1 h o ho
 simp only[Bool.and_eq_true]at this
 refine⟨fun d hd=>?_,fun x hx=>List.all_eq_true.1 this.2 x hx⟩
 rw[hd]at this;simpa using this.1
theorem region_ok(hcall:CallOK P base P.globals.size callA)(hdraw:DrawOK P callA base)(hbl:base≤lo){id nt:Nat}{ops:Array Oper}{draw:Bool}{φ:Map}{H:Heap}{w:World}{T:Raw}{a:Act}(hlo:lo≤H.length)
  (hops:opsOK P nt ops.toList=true) (hdo:draw=true→drawOK P ops.toList=true) (hT:Tmps φ nt T a) (hH:HRel φ base P.globals.size H w) {T':Raw} {H':Heap}
  (hr:rawRun P callA lo ops.toList (raisedFn P ops.toList draw) (orderOf P ops.toList draw) T H=some (T',H')) (hdist:distOK P ops.toList draw T')
  (hK:∀a' w' φ',Tmps φ' nt T' a'→Eff φ base P.globals.size lo H w φ' H' w'→Q .normal a' w'):(Code.region id ops draw).wp P Q a w:=by
 have he:ops.toList.toArray=ops:=by simp
 cases draw
 ·refine wp_region ?_
  have:=seq_ok (Q:=Q) hcall hbl (opsOK_spec hops) (orderOf P ops.toList false) φ H w T a hlo hT hH T' H' hr hK
  rw[he]at this
  simpa[orderOf]using this
 ·have:=hdraw lo Q id nt ops.toList φ H w T a hbl hlo hops (hdo rfl) hT hH T' H' hr hdist hK
  rw[he]at this
  exact this
theorem evalT_bool{φ:Map}{nt:Nat}{T:Raw}{a:Act}(hT:Tmps φ nt T a){c:Operand}{b:Bool}(h:evalT T c=.bool b):a.eval c=.bool b:=by
 cases c with
 | tmp t=>
  have:=hT.rel t
  simp only[evalT]at h
  rw[h]at this
  show a.tmps.getD t undef=_
  generalize a.tmps.getD t undef=c at this
  cases this;rfl
 | const v=>exact h
 | global g=>simp[evalT]at h
 | func f=>simp[evalT]at h
theorem code_ok(hcall:CallOK P base P.globals.size callA)(hdraw:DrawOK P callA base)(hbl:base≤lo){tr:List Nat}(hnd:Nd tr){nt:Nat} :
  ∀(k:Nat) (c:Code),SizeOf.sizeOf c<k→∀st,compCode P tr c=some st→codeOK P nt c=true→∀(Q:Exit→Act→World→Prop) (φ:Map) (H:Heap) (w:World) (T:Raw) (a:Act) (S:List Value),Slots tr S T→Tmps φ nt T a →
   HRel φ base P.globals.size H w→lo≤H.length→∀ex S' H',exec callA lo n st S H=some (ex,S',H') →
   (∀a' w' φ' T',Slots tr S' T'→Tmps φ' nt T' a'→Eff φ base P.globals.size lo H w φ' H' w'→Q (exitOf ex) a' w')→c.wp P Q a w:=by
 intro k
 induction k with
 | zero=>intro c hk;omega
 | succ k ih=>
 intro c hk st hc hco Q φ H w T a S hS hT hH hlo ex S' H' hx hK
 have fused:∀(id:Nat) (ops:Array Oper) (draw:Bool) (cd:Operand) (x y:Code) (l:List Stm) (e:E) (x' y':Stm),condStms P tr ops.toList draw cd=some (l,e)→compCode P tr x=some x'→compCode P tr y=some y'→SizeOf.sizeOf x<k→SizeOf.sizeOf y<k →
   opsOK P nt ops.toList=true→codeOK P nt x=true→codeOK P nt y=true→∀(Q:Exit→Act→World→Prop) (ex:Ex) (S':List Value) (H':Heap),exec callA lo n (seqAll (l++[.cond e x' y'])) S H=some (ex,S',H') →
   (∀a' w' φ' T',Slots tr S' T'→Tmps φ' nt T' a'→Eff φ base P.globals.size lo H w φ' H' w'→Q (exitOf ex) a' w')→∀(Qr:Exit→Act→World→Prop),(∀a1 w1,(Code.cond cd x y).wp P Q a1 w1→Qr .normal a1 w1)→(Code.region id ops draw).wp P Qr a w:=by
  intro id ops draw cd x y l e x' y' hcs hcx hcy hsx hsy hops hox hoy Q ex S' H' hx hK Qr hQr
  obtain⟨S1,H1,g1,g2⟩:=exec_seqAll_end (cond_plain hnd hcs hS) hx
  simp only[exec]at g2
  cases hv:ev1 S1 H1 e with
  | none=>rw[hv]at g2;simp at g2
  | some v=>
  obtain⟨hdo,T1,f1,f2,f3,f4⟩:=cond_raw hnd hcs hS g1 hv
  refine region_ok hcall hdraw hbl hlo hops hdo hT hH f1 f3 fun a1 w1 φ1 hT1 heff1=>?_
  rw[hv]at g2
  refine hQr a1 w1 ?_
  split at g2
  ·rename_i hb
   simp at hb;subst hb
   exact wp_cond_true (evalT_bool hT1 f4) (ih x hsx x' hcx hox Q φ1 H1 w1 T1 a1 S1 f2 hT1 heff1.rel (Nat.le_trans hlo heff1.keeps.1) ex S' H' g2
    (fun a' w' φ' T' h1 h2 h3=>hK a' w' φ' T' h1 h2 (Eff.trans heff1 h3)))
  ·rename_i hb
   simp at hb;subst hb
   exact wp_cond_false (evalT_bool hT1 f4) (ih y hsy y' hcy hoy Q φ1 H1 w1 T1 a1 S1 f2 hT1 heff1.rel (Nat.le_trans hlo heff1.keeps.1) ex S' H' g2
    (fun a' w' φ' T' h1 h2 h3=>hK a' w' φ' T' h1 h2 (Eff.trans heff1 h3)))
  ·simp at g2
 unfold compCode at hc
 split at hc
 ·
  simp at hc;subst hc
  simp[exec]at hx;obtain⟨rfl,rfl,rfl⟩:=hx
  exact wp_skip (hK a w φ T hS hT (Eff.refl hH))
 ·
  rename_i id ops draw
  simp only[Option.map_eq_some_iff]at hc
  obtain⟨l,hl,rfl⟩:=hc
  obtain⟨rfl,hdo,T',f1,f2,f3⟩:=region_raw hnd hl hS hx
  exact region_ok hcall hdraw hbl hlo (by simpa[codeOK]using hco) hdo hT hH f1 f3 (fun a' w' φ' h1 h2=>hK a' w' φ' T' f2 h1 h2)
 ·
  rename_i id ops draw cd x y
  split at hc
  ·rename_i l e x' y' h1 h2 h3
   simp at hc;subst hc
   simp only[codeOK,Bool.and_eq_true]at hco
   simp at hk
   exact wp_seq (fused id ops draw cd x y l e x' y' h1 h2 h3 (by omega) (by omega) hco.1 hco.2.1 hco.2.2 Q ex S' H' hx hK _ (fun a1 w1 h=>h))
  ·simp at hc
 ·
  rename_i id ops draw cd x y r
  split at hc
  ·rename_i l e x' y' r' h1 h2 h3 h4
   simp at hc;subst hc
   simp only[codeOK,Bool.and_eq_true]at hco
   simp at hk
   refine wp_seq ?_
   simp only[exec]at hx
   split at hx
   ·rename_i S1 H1 hs
    refine fused id ops draw cd x y l e x' y' h1 h2 h3 (by omega) (by omega) hco.1 hco.2.1.1 hco.2.1.2 (Exit.then (r.wp P Q) Q) .normal S1 H1 hs (fun a1 w1 φ1 T1 k1 k2 k3=>?_) _ (fun a1 w1 h=>wp_seq h)
    exact ih r (by omega) r' h4 hco.2.2 Q φ1 H1 w1 T1 a1 S1 k1 k2 k3.rel (Nat.le_trans hlo k3.keeps.1) ex S' H' hx (fun a' w' φ' T' q1 q2 q3=>hK a' w' φ' T' q1 q2 (Eff.trans k3 q3))
   ·rename_i hne
    refine fused id ops draw cd x y l e x' y' h1 h2 h3 (by omega) (by omega) hco.1 hco.2.1.1 hco.2.1.2 (Exit.then (r.wp P Q) Q) ex S' H' hx (fun a1 w1 φ1 T1 k1 k2 k3=>?_) _ (fun a1 w1 h=>wp_seq h)
    have:=hK a1 w1 φ1 T1 k1 k2 k3
    cases ex with
    | normal=>exact absurd hx (hne _ _)
    | exit i=>exact this
    | ret=>exact this
  ·simp at hc
 ·
  rename_i x y _ _
  split at hc
  ·rename_i x' y' h1 h2
   simp at hc;subst hc
   simp only[codeOK,Bool.and_eq_true]at hco
   simp at hk
   refine wp_seq ?_
   simp only[exec]at hx
   split at hx
   ·rename_i S1 H1 hs
    refine ih x (by omega) x' h1 hco.1 _ φ H w T a S hS hT hH hlo .normal S1 H1 hs (fun a1 w1 φ1 T1 k1 k2 k3=>?_)
    exact ih y (by omega) y' h2 hco.2 Q φ1 H1 w1 T1 a1 S1 k1 k2 k3.rel (Nat.le_trans hlo k3.keeps.1) ex S' H' hx (fun a' w' φ' T' q1 q2 q3=>hK a' w' φ' T' q1 q2 (Eff.trans k3 q3))
   ·rename_i hne
    refine ih x (by omega) x' h1 hco.1 _ φ H w T a S hS hT hH hlo ex S' H' hx (fun a1 w1 φ1 T1 k1 k2 k3=>?_)
    have:=hK a1 w1 φ1 T1 k1 k2 k3
    cases ex with
    | normal=>exact absurd hx (hne _ _)
    | exit i=>exact this
    | ret=>exact this
  ·simp at hc
 ·
  rename_i cd x y
  split at hc
  ·rename_i e x' y' h1 h2 h3
   simp at hc;subst hc
   simp only[codeOK,Bool.and_eq_true]at hco
   simp at hk
   have he:=opE_slots (H:=H) hS h1
   simp only[exec,he]at hx
   split at hx
   ·rename_i hb
    simp at hb
    exact wp_cond_true (evalT_bool hT hb) (ih x (by omega) x' h2 hco.1 Q φ H w T a S hS hT hH hlo ex S' H' hx hK)
   ·rename_i hb
    simp at hb
    exact wp_cond_false (evalT_bool hT hb) (ih y (by omega) y' h3 hco.2 Q φ H w T a S hS hT hH hlo ex S' H' hx hK)
   ·simp at hx
  ·simp at hc
 ·
  rename_i i b
  simp only[Option.map_eq_some_iff]at hc
  obtain⟨b',hb,rfl⟩:=hc
  simp at hk
  refine wp_block ?_
  simp only[exec]at hx
  split at hx
  ·rename_i j S1 H1 hs
   split at hx
   ·rename_i hj
    simp at hx;obtain⟨rfl,rfl,rfl⟩:=hx
    refine ih b (by omega) b' hb (by simpa[codeOK]using hco) _ φ H w T a S hS hT hH hlo (.exit j) _ _ hs (fun a1 w1 φ1 T1 k1 k2 k3=>?_)
    have:=hK a1 w1 φ1 T1 k1 k2 k3
    simpa[exitOf,Exit.inBlock,hj]using this
   ·rename_i hj
    simp at hx;obtain⟨rfl,rfl,rfl⟩:=hx
    refine ih b (by omega) b' hb (by simpa[codeOK]using hco) _ φ H w T a S hS hT hH hlo (.exit j) _ _ hs (fun a1 w1 φ1 T1 k1 k2 k3=>?_)
    have:=hK a1 w1 φ1 T1 k1 k2 k3
    simpa[exitOf,Exit.inBlock,hj]using this
  ·rename_i hne
   refine ih b (by omega) b' hb (by simpa[codeOK]using hco) _ φ H w T a S hS hT hH hlo ex S' H' hx (fun a1 w1 φ1 T1 k1 k2 k3=>?_)
   have:=hK a1 w1 φ1 T1 k1 k2 k3
   cases ex with
   | normal=>exact this
   | exit i=>exact absurd hx (hne _ _ _)
   | ret=>exact this
 ·
  rename_i b
  simp only[Option.map_eq_some_iff]at hc
  obtain⟨b',hb,rfl⟩:=hc
  simp at hk
  simp only[exec]at hx
  refine wp_loopJ (fun m a1 w1=>∃S1 H1 φ1 T1,iter (exec callA lo n b') m S1 H1=some (ex,S',H')∧Slots tr S1 T1∧Tmps φ1 nt T1 a1∧Eff φ base P.globals.size lo H w φ1 H1 w1) ⟨S,H,φ,T,hx,hS,hT,Eff.refl hH⟩ ?_
  rintro m a1 w1 ⟨S1,H1,φ1,T1,hit,k1,k2,k3⟩
  cases m with
  | zero=>simp[iter]at hit
  | succ m=>
   simp only[iter]at hit
   split at hit
   ·rename_i S2 H2 hs
    exact ih b (by omega) b' hb (by simpa[codeOK]using hco) _ φ1 H1 w1 T1 a1 S1 k1 k2 k3.rel (Nat.le_trans hlo k3.keeps.1) .normal S2 H2 hs
     (fun a2 w2 φ2 T2 q1 q2 q3=>⟨m,by omega,S2,H2,φ2,T2,hit,q1,q2,Eff.trans k3 q3⟩)
   ·rename_i hne
    refine ih b (by omega) b' hb (by simpa[codeOK]using hco) _ φ1 H1 w1 T1 a1 S1 k1 k2 k3.rel (Nat.le_trans hlo k3.keeps.1) ex S' H' hit (fun a2 w2 φ2 T2 q1 q2 q3=>?_)
    have:=hK a2 w2 φ2 T2 q1 q2 (Eff.trans k3 q3)
    cases ex with
    | normal=>exact absurd hit (hne _ _)
    | exit i=>exact this
    | ret=>exact this
 ·
  simp at hc;subst hc
  simp[exec]at hx;obtain⟨rfl,rfl,rfl⟩:=hx
  exact wp_exit (hK a w φ T hS hT (Eff.refl hH))
 ·
  simp at hc;subst hc
  simp[exec]at hx;obtain⟨rfl,rfl,rfl⟩:=hx
  exact wp_ret (hK a w φ T hS hT (Eff.refl hH))
 ·simp at hc
end
end Go.Abs
namespace Go.Abs
section
variable {P:Program}{callA:CallA}{base lo n:Nat}
def Compiled(P:Program)(cp:FuncId→Option CF):Prop:=∀f cf,cp f=some cf→∃tr,compFunc P tr f=some cf
theorem nodup_Nd:∀{tr:List Nat},nodup tr=true→Nd tr
 | [],_=>fun i j t h=>by simp at h
 | x::r,h=>by
  simp only[nodup,Bool.and_eq_true,Bool.not_eq_true',List.contains_eq_mem,decide_eq_false_iff_not]at h
  intro i j t hi hj
  cases i with
  | zero=>
   cases j with
   | zero=>rfl
   | succ j=>simp at hi hj;subst hi;exact absurd (List.mem_of_getElem? hj) h.1
  | succ i=>
   cases j with
   | zero=>simp at hi hj;subst hj;exact absurd (List.mem_of_getElem? hi) h.1
   | succ j=>simp at hi hj;rw[nodup_Nd h.2 i j t hi hj]
theorem res_ok{tr:List Nat}{φ:Map}{G nt:Nat}{H:Heap}{w:World}{T:Raw}{a:Act}{S:List Value}(hS:Slots tr S T)(hT:Tmps φ nt T a)(hH:HRel φ base G H w) :
  ∀{rs:List ResultVar} {es:List E} {vs:List Value},compRes P tr rs=some es→evList S H es=some vs →
   ∃cs,LRel φ vs cs∧(rs.mapM (fun | .tmp t=>pure (a.tmps.getD t undef) | .cell x t=>do loadVar t (←asAddr (a.tmps.getD x undef)):ResultVar→Sem Value)).run P w=.ok cs w
 | [],es,vs,h,hv=>by
  simp[compRes]at h;subst h
  simp[evList]at hv;subst hv
  exact⟨[],LRel.nil φ,by simp⟩
 | .tmp t::rs,es,vs,h,hv=>by
  simp only[compRes]at h
  split at h
  ·rename_i j l hj hl
   simp at h;subst h
   simp only[evList]at hv
   split at hv
   ·rename_i v hev
    split at hv
    ·rename_i vs' hvs
     simp at hv;subst hv
     obtain⟨cs,e1,e2⟩:=res_ok hS hT hH hl hvs
     have:v=T t:=by
      have:=hS.2 j t (idxOf_get hj)
      simp[ev1,ev,this]at hev;exact hev.symm
     subst this
     refine⟨a.tmps.getD t undef::cs,LRel.cons (hT.rel t) e1,?_⟩
     rw[List.mapM_cons]
     simp only[Sem.run_bind,Sem.run_pure,Result.andThen_ok,e2]
    ·simp at hv
   ·simp at hv
  ·simp at h
 | .cell x t::rs,es,vs,h,hv=>by
  simp only[compRes]at h
  split at h
  ·rename_i j agg m l hj hagg hm hl
   simp at h;subst h
   simp only[evList]at hv
   split at hv
   ·rename_i v hev
    split at hv
    ·rename_i vs' hvs
     simp at hv;subst hv
     obtain⟨cs,e1,e2⟩:=res_ok hS hT hH hl hvs
     have hx:=hS.2 j x (idxOf_get hj)
     have hld:lsem (.ld m agg) [T x] H=some v:=by
      simp only[ev1,ev,hx,List.append_nil]at hev
      cases hh:lsem (.ld m agg) [T x] H with
      | none=>simp[hh]at hev
      | some u=>simp[hh]at hev;rw[hev]
     obtain⟨cv,f1,f2⟩:=load_ok (P:=P) hH.crel hagg hm (hT.rel x) hld
     refine⟨cv::cs,LRel.cons f2 e1,?_⟩
     rw[List.mapM_cons]
     have:(do loadVar t (←asAddr (a.tmps.getD x undef)):Sem Value).run P w=.ok cv w:=by
      have hr:=hT.rel x
      generalize a.tmps.getD x undef=c at f1 hr ⊢
      generalize T x=tx at hr hld
      cases hr<;>simp only[lsem]at hld<;>try (simp at hld;done)
      simpa only[Instr.loadAt,Instr.sureAddr,asAddr]using f1
     simp only[Sem.run_bind]at this
     simp only[Sem.run_bind,this,Result.andThen_ok,e2,Sem.run_pure]
    ·simp at hv
   ·simp at hv
  ·simp at h
theorem resultOf_rel{φ:Map}{vs cs:List Value}(h:LRel φ vs cs):VRel φ (resultOf vs) (if h:cs.toArray.size=1 then cs.toArray[0] else .tuple cs.toArray):=by
 by_cases h1:vs.length=1
 ·obtain⟨v,rfl⟩:=List.length_eq_one_iff.1 h1
  obtain⟨c,r,rfl,hc,hr⟩:=h.of_cons
  obtain rfl:=hr.of_nil
  simpa[resultOf]using hc
 ·have hl:=h.1
  have e:resultOf vs=.tuple vs.toArray:=by
   unfold resultOf
   split
   ·simp at h1
   ·rfl
  rw[e,dif_neg (by simp;omega)]
  exact .tuple _ _ (by simp[hl]) (by simpa using h.2)
theorem run_ok{cp:FuncId→Option CF}(hdraw:∀n,CallOK P base P.globals.size (run cp n)→DrawOK P (run cp n) base)(hcp:Compiled P cp):∀n,CallOK P base P.globals.size (run cp n)
 | 0=>fun lo f args H v H' _ _ h=>by simp[run]at h
 | n+1=>by
  intro lo f args H v H' hbl hlo h
  simp only[run]at h
  cases hcf:cp f with
  | none=>rw[hcf]at h;simp at h
  | some cf=>
  rw[hcf]at h
  simp only at h
  split at h
  ·rename_i hnp
   obtain⟨tr,htr⟩:=hcp f cf hcf
   unfold compFunc at htr
   split at htr
   ·rename_i fn hfn
    split at htr
    ·rename_i c hbody
     simp only at htr
     split at htr
     ·rename_i hcond
      obtain⟨c1,c2,c3,c4,c5,c6,c7⟩:=hcond
      split at htr
      ·rename_i body res hcode hres
       simp at htr;subst htr
       simp only at h hnp
       refine⟨⟨fn,hfn,by simp[hbody],c5⟩,fun φ w cargs hH hargs=>?_⟩
       have hlen:cargs.length=args.length:=hargs.1.symm
       have hnd:=nodup_Nd c2
       let T:Raw:=fun t=>args.getD t undef
       have hS:Slots tr (args++List.replicate (tr.length-(fn.params.size+fn.nfree)) undef) T:=by
        refine⟨by simp;omega,fun j t ht=>?_⟩
        have hj:=(List.getElem?_eq_some_iff.1 ht).1
        by_cases hlt:j<args.length
        ·have:tr[j]?=some j:=by
          have h2:(tr.take (fn.params.size+fn.nfree))[j]?=some j:=by rw[c1,List.getElem?_range (by omega)]
          rw[List.getElem?_take,if_pos (by omega)]at h2
          exact h2
         rw[ht]at this
         simp at this;subst this
         rw[List.getElem?_append_left hlt]
         simp[T,hlt]
        ·have htge:args.length≤t:=by
          refine Decidable.byContradiction fun hc=>?_
          have h2:tr[t]?=some t:=by
           have h2:(tr.take (fn.params.size+fn.nfree))[t]?=some t:=by rw[c1,List.getElem?_range (by omega)]
           rw[List.getElem?_take,if_pos (by omega)]at h2
           exact h2
          have:=hnd j t t ht h2
          omega
         rw[List.getElem?_append_right (by omega)]
         simp[T,List.getElem?_replicate,htge]
         omega
       have hT:Tmps φ fn.ntmps T { tmps:=cargs.toArray++Array.replicate (fn.ntmps-cargs.toArray.size) undef,defers:=[] }:=by
        refine⟨by simp;omega,fun t=>?_,rfl⟩
        simp only[T,Array.getD_eq_getD_getElem?]
        by_cases ht:t<args.length
        ·have h1:args[t]?=some args[t]:=List.getElem?_eq_getElem ht
         have h2:cargs[t]?=some (cargs[t]'(by omega)):=List.getElem?_eq_getElem (by omega)
         rw[Array.getElem?_append_left (by simp;omega)]
         simp only[List.getD_eq_getElem?_getD,h1,List.getElem?_toArray,h2,Option.getD_some]
         exact hargs.2 t _ _ h1 h2
        ·have h1:args[t]?=none:=List.getElem?_eq_none (by omega)
         rw[Array.getElem?_append_right (by simp;omega)]
         simp only[List.getD_eq_getElem?_getD,h1,Option.getD_none]
         have:((Array.replicate (fn.ntmps-cargs.toArray.size) undef)[t-cargs.toArray.size]?).getD undef=undef:=by
          rw[Array.getElem?_replicate];split<;>rfl
         rw[this];exact undef_rel
       refine calls_of_wp hfn hbody ?_
       have fin:∀ex S' ,(ex=Ex.normal∨ex=Ex.ret)→exec (run cp n) lo n body (args++List.replicate (tr.length-(fn.params.size+fn.nfree)) undef) H=some (ex,S',H') →
         (∃vs,evList S' H' res=some vs∧v=resultOf vs) →
         c.wp P (bodyPost P fn (fun e w'=>∃cv φ',e=.returned cv∧Eff φ base P.globals.size lo H w φ' H' w'∧VRel φ' v cv)) { tmps:=cargs.toArray++Array.replicate (fn.ntmps-cargs.toArray.size) undef,defers:=[] } w:=by
        rintro ex S' hex hx ⟨vs,hvs,rfl⟩
        refine code_ok (run_ok hdraw hcp n) (hdraw n (run_ok hdraw hcp n)) hbl hnd (SizeOf.sizeOf c+1) c (by omega) body hcode c6 _ φ H w T _ _ hS hT hH hlo ex S' H' hx fun a' w' φ' T' h1 h2 h3=>?_
        obtain⟨cs,f1,f2⟩:=res_ok (P:=P) h1 h2 h3.rel hres hvs
        have hrun:(results fn a'.tmps).run P w'=.ok (if h:cs.toArray.size=1 then cs.toArray[0] else .tuple cs.toArray) w':=by
         unfold results
         rw[Array.mapM_eq_mapM_toList]
         simp only[Sem.run_bind,Sem.run_map]
         refine Eq.trans (congrArg (fun r:Result (List Value)=>((r.andThen fun a w'=>.ok a.toArray w').andThen fun a w'=>(pure (if h:a.size=1 then a[0] else .tuple a):Sem Value).run P w')) f2) ?_
         rfl
        have post:a'.defers=[]∧∃v,(results fn a'.tmps).run P w'=.ok v w'∧∃cv φ',Ending.returned v=.returned cv∧Eff φ base P.globals.size lo H w φ' H' w'∧VRel φ' (resultOf vs) cv:=
         ⟨h2.defers,_,hrun,_,φ',rfl,h3,resultOf_rel f1⟩
        rcases hex with rfl|rfl
        ·exact post
        ·exact post
       split at h
       ·rename_i S' H1 hx
        split at h
        ·rename_i vs hvs
         simp at h;obtain⟨rfl,rfl⟩:=h
         exact fin .normal S' (.inl rfl) hx ⟨vs,hvs,rfl⟩
        ·simp at h
       ·rename_i S' H1 hx
        split at h
        ·rename_i vs hvs
         simp at h;obtain⟨rfl,rfl⟩:=h
         exact fin .ret S' (.inr rfl) hx ⟨vs,hvs,rfl⟩
        ·simp at h
       ·simp at h
      ·simp at htr
     ·simp at htr
    ·simp at htr
   ·simp at htr
  ·simp at h
end
end Go.Abs
