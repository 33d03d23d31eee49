/- Lemmas. -/
import Derived.Test.YtgiojnobcjnibaaGreatDoorP12
import Derived.Test.YtgiojnobcjnibaaGreatDoorP16
import Derived.Test.YtgiojnobcjnibaaGreatDoorP17
import Derived.Test.YtgiojnobcjnibaaGreatDoorP18
import Derived.KernelRfl
import Derived.Shelf.Abstract
import Derived.Lib.SmallJoins
set_option linter.unusedVariables false
set_option linter.unusedSimpArgs false
set_option linter.unusedSectionVars false
namespace Go.Proofs.YtgiojnobcjnibaaGreatDoor
open Go.Abs Go.Shelf
structure Kp (w w':World):Prop where
 size:w.heap.size≤w'.heap.size
 block:∀b,b<w.heap.size→w'.heap[b]?=w.heap[b]?
 os:w'.os=w.os
 out:w'.output=w.output
theorem num_finds (rv : Value) : ∀ w, Sem.run Tryz.prog (method 426 153 rv "barscan/stacked.numbered") w = .ok (264, rv) w := fun _ => by kernel_rfl
set_option maxHeartbeats 1000000 in
set_option maxRecDepth 100000 in
theorem num_ok(a b:Int)(l:List Value)(w:World) :
  Calls Tryz.prog 264 #[.agg ⟨.int .i64 a::l⟩,.int .i64 b] w fun e w'=>e=.returned (.bool (a==b))∧Kp w w':=by
 have mixed:Tryz.prog.follows .mixedOrders=true:=by kernel_rfl
 go_enter Tryz.func264,Tryz.ntmps264
 go_wp2
 go_ret
 have k:=Go.Joins.below_alloc1 w (.cells ⟨Value.int IntKind.i64 a::l⟩ 153)
 exact⟨rfl,k.size,k.block,k.os,k.output⟩
set_option maxHeartbeats 1000000 in
set_option maxRecDepth 100000 in
theorem col_ok(a b:Int)(l:List Value)(p:Addr)(w:World)(hp:w.cell? p=some (.int .i64 b)) :
  Calls Tryz.prog 91 #[.iface 153 (.agg ⟨.int .i64 a::l⟩),.pointer (some p)] w fun e w'=>e=.returned (.bool (a==b))∧Kp w w':=by
 have mixed:Tryz.prog.follows .mixedOrders=true:=by kernel_rfl
 have mS:=num_finds (.agg ⟨.int .i64 a::l⟩)
 have e264:∀args w,(callFunc 264 args).run Tryz.prog w=.ok (.enter 264 args) w:=enters_of Tryz.func264 (by kernel_rfl) rfl
 have hm:=num_ok a b l
 go_enter Tryz.func91,Tryz.ntmps91
 go_wp2_with (go_at_fn 264;refine(hm _).mono ?_;rintro e w' ⟨rfl,hk⟩)
 go_ret
 exact⟨rfl,hk⟩
def g91:List Value→Heap→Option Value
 | [.iface 153 (.agg ⟨.int .i64 a::_⟩),.pointer (some ⟨i,o,none⟩)],H=>match (H.cells i o 1).bind (·.head?)with
  | some (.int .i64 b)=>some (.bool (a==b))
  | _=>none
 | _,_=>none
theorem prim91:PrimOK Tryz.prog 91 2 g91:=by
 refine⟨⟨_,Tryz.func91,by decide,by decide⟩,?_⟩
 intro base args H v hlen hg φ w cargs hH hA
 unfold g91 at hg
 split at hg
 ·rename_i a l i o
  split at hg
  ·rename_i b hb
   cases hg
   obtain⟨c1,r1,rfl,hv1,hA⟩:=hA.of_cons
   obtain⟨c2,r2,rfl,hv2,hA⟩:=hA.of_cons
   have hr2:r2=[]:=List.length_eq_zero_iff.1 hA.1.symm
   subst hr2
   cases hv1 with
   | iface t v v' hv=>
    cases hv with
    | agg a1 a2 hs hr=>
     obtain⟨cs⟩:=a2
     cases cs with
     | nil=>simp at hs
     | cons u cs=>
      have h0:=hr 0 _ u rfl rfl
      cases h0
      cases hv2 with
      | ptr i o p hp=>
       cases hx:H.cells i o 1 with
       | none=>rw[hx]at hb;cases hb
       | some l1=>
        rw[hx]at hb
        obtain⟨hl,l',hl',hcell⟩:=hH.crel.cells hx hp
        cases l1 with
        | nil=>cases hb
        | cons y ys=>
         cases hb
         obtain⟨y',ys',rfl,hy,-⟩:=hl'.of_cons
         cases hy
         have hw:=hcell 0 _ rfl
         refine(col_ok a b cs _ w hw).mono ?_
         rintro e w' ⟨rfl,k⟩
         exact⟨_,φ,rfl,.bool _,⟨Map.le_refl φ,hH.ext k.size k.block,Heap.keeps_refl H,k.size,fun b hb _=>k.block b hb,fun i p hi hp=>by rw[hi]at hp;simp at hp,k.os,k.out⟩⟩
  ·cases hg
 ·cases hg
theorem run91(n lo:Nat)(args:List Value)(H:Heap)(r:Value ⊕ Value)(H':Heap)(ha:args.length=2)(h:run cpS (n+1) lo 91 args H=some (r,H')):∃v,r=.inl v∧H'=H∧g91 args H=some v:=by
 match args,ha with
 | [x,p],_=>
 unfold run at h
 rw[show cpS 91=some cf91' from rfl]at h
 simp only[cf91',List.length_cons,List.length_nil,exec,evSets,ev1]at h
 cases x with
 | iface t v=>
  cases v with
  | agg cs=>
   obtain⟨cs⟩:=cs
   by_cases e:153=t
   ·subst e
    cases cs with
    | nil=>simp[ev,lsem,setAll,evChk,evList,ev1,eq91]at h
    | cons c l=>
     cases c with
     | int k a=>
      by_cases ek:k=.i64
      ·subst ek
       cases hq:(a==0)
       all_goals
        cases p with
        | pointer ad=>
         cases ad with
         | none=>simp[ev,lsem,setAll,evChk,evList,ev1,eq91,binSem,binInt,hq]at h
         | some ad=>
          obtain⟨i,o,z⟩:=ad
          cases z with
          | some z=>simp[ev,lsem,setAll,evChk,evList,ev1,eq91,binSem,binInt,hq]at h
          | none=>
           cases hb:(H.cells i o 1).bind (·.head?)with
           | none=>simp[ev,lsem,setAll,evChk,evList,ev1,eq91,binSem,binInt,hq,hb]at h
           | some u=>
            cases u with
            | int k b=>
             by_cases ek:.i64=k
             ·subst ek
              simp[ev,lsem,setAll,evChk,evList,ev1,eq91,binSem,binInt,hq,hb,resultOf]at h
              exact⟨_,h.1.symm,h.2.symm,by simp[g91,hb]⟩
             ·simp[ev,lsem,setAll,evChk,evList,ev1,eq91,binSem,binInt,hq,hb,ek]at h
            | _=>simp[ev,lsem,setAll,evChk,evList,ev1,eq91,binSem,binInt,hq,hb]at h
        | _=>simp[ev,lsem,setAll,evChk,evList,ev1,eq91,binSem,binInt,hq]at h
      ·simp[ev,lsem,setAll,evChk,evList,ev1,eq91,binSem,ek]at h
     | _=>simp[ev,lsem,setAll,evChk,evList,ev1,eq91,binSem]at h
   ·simp[ev,lsem,e]at h
  | _=>simp[ev,lsem]at h
 | nilIface=>simp[ev,lsem,setAll,evChk]at h
 | _=>simp[ev,lsem]at h
theorem compiled0(f:FuncId)(cf:CF)(h:cp f=some cf):∃t,compFunc Tryz.prog t f=some cf:=by
 unfold cp at h
 split at h
 all_goals first|exact compiled0x f cf h|exact compiled1x f cf h|exact compiled2x f cf h|exact compiled3x f cf h|exact compiled4x f cf h|exact compiled5x f cf h|exact compiled6x f cf h|exact compiled7x f cf h|exact compiled8x f cf h|exact compiled9x f cf h|exact compiled10x f cf h|exact compiled11x f cf h|exact compiled12x f cf h|exact compiled13x f cf h|exact compiled14x f cf h|exact compiled15x f cf h|exact compiled16x f cf h|exact compiled17x f cf h|cases h
theorem compiledS:Compiled Tryz.prog cpS:=fun f cf h=>by
 unfold cpS at h
 split at h
 ·rename_i e;subst e;cases h
  exact .inr ⟨g91,prim91,.inr ⟨rfl,fun n lo args H r H' ha h=>run91 n lo args H r H' ha h⟩⟩
 ·exact .inl (compiled0 f cf h)
theorem okAllS(base n:Nat):RunOK Tryz.prog base Tryz.prog.globals.size (run cpS n):=sound mixed compiledS base n
open Go.Abs
theorem subS:Sub cp cpS:=fun f cf h=>by
 unfold cpS
 split
 ·rename_i e;subst e;cases h
 ·exact h
theorem subTS:Sub cpT cpS:=fun f cf h=>subS f cf (subT f cf h)
theorem tally_run:∃N,∀(lo:Nat) (H:Heap),lo≤H.length→∀m,N≤m→run cpS m lo 23 [] H=some (.inl (.pointer (some ⟨H.length,0,none⟩)),H++[some tabV]):=by
 obtain⟨M,v,H0,hrun,-,-⟩:=tallyP (lo:=0) (H:=[]) (Nat.le_refl _)
 refine⟨M,fun lo H hlo m hm=>?_⟩
 have h0:=hrun M (Nat.le_refl _)
 obtain⟨r',B',h1,-,-⟩:=run_sh (k:=mv0 H.length) plainT M 0 lo 23 [] [] [] H _ _ ⟨Nat.le_refl _,by simp only[mv0];omega⟩ ⟨rfl,by simp⟩ ⟨by simp[mv0],fun i c hc=>by simp[Heap.get]at hc⟩ h0
 obtain⟨M2,v2,H2,hr2,rfl,rfl⟩:=tallyP (lo:=lo) (H:=H) hlo
 have a:=run_le (Nat.le_max_left M M2) _ _ _ _ _ h1
 have b:=hr2 (max M M2) (Nat.le_max_right M M2)
 rw[a]at b
 injection b with b
 rw[b]at h1
 exact run_sub subTS m _ _ _ _ _ (run_le hm _ _ _ _ _ h1)
theorem tab_put:putCells tabV 0 [.int .i64 0]=tabV:=by kernel_rfl
theorem subO:∃N,SubO N cpO cpS:=by
 obtain⟨N,hN⟩:=tally_run
 refine⟨N+100,fun f cf h=>?_⟩
 unfold cpO at h
 split at h
 ·rename_i e;subst e;cases h
  refine .inr ⟨rfl,fun n lo args H r hr m hm=>?_⟩
  unfold run at hr
  rw[show cpO 23=some cf23' from rfl]at hr
  match args with
  | []=>
   have hT:tabL.map (fun n=>Value.int .i64 (.ofNat n))=tabV:=rfl
   have hp:=tab_put
   have hc:(Value.int .i64 0).cells=#[Value.int .i64 0]:=rfl
   have ho:oneCells [Value.int .i64 0]=true:=rfl
   have hl:1≤tabV.length:=Nat.le_of_ble_eq_true (by kernel_rfl)
   simp only[cf23',List.length_cons,List.length_nil,exec,evSets,ev1,hT]at hr
   have hg:Heap.get (H++[some tabV]) H.length=some tabV:=get_push_self _ _
   have hset:(H++[some tabV]).set H.length (some tabV)=H++[some tabV]:=set_last _ _ _
   generalize tabV=T at *
   by_cases hlo:lo≤H.length
   ·rw[hN lo H hlo m (by omega)]
    simp[ev,setAll,evChk,holds,hsem,Heap.put,evList,ev1,hg,hp,hlo,hset,resultOf,hc,ho,hl]at hr
    rw[hr]
   ·exfalso
    simp[ev,setAll,evChk,holds,hsem,Heap.put,panSem,hlo,hg,hc,ho]at hr
  | x::l=>simp[cf23']at hr
 ·split at h
  ·cases h
  ·exact .inl h
theorem aliveP{lo:Nat}{H:Heap}(hlo:lo≤H.length):Ev cpS lo 9 [] H (fun v H'=>Ext H H'∧v=.bool true):=by
 obtain⟨N,hN⟩:=subO
 have h:Ev cpO lo 9 [] H (fun v H'=>Ext H H'∧v=.bool true):=ev_fastP (args:=[]) plainO scS_ok tA rfl rfl hlo
 exact h.subO hN
end Go.Proofs.YtgiojnobcjnibaaGreatDoor
