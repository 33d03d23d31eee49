/- Lemmas. -/
import Derived.Test.YtgiojnobcjnibaaGreatDoorP16
import Derived.KernelRfl
set_option linter.unusedVariables false
set_option linter.unusedSimpArgs false
set_option linter.unusedSectionVars false
namespace Go.Proofs.YtgiojnobcjnibaaGreatDoor
open Go.Abs
theorem allO:((List.range 300).all fun f=>(cpO f).all plainCF)=true:=by kernel_rfl
theorem cp_big(f:Nat)(hf:300≤f):cp f=none:=by
 unfold cp
 have h:18≤f/16:=by omega
 generalize f/16=g at h
 split
 all_goals first|rfl|omega
theorem plainO(f:FuncId)(cf:CF)(h:cpO f=some cf):plainCF cf=true:=by
 by_cases hf:f<300
 ·have:=List.all_eq_true.1 allO f (List.mem_range.2 hf)
  rw[h]at this
  exact this
 ·exfalso
  have hf:300≤f:=Nat.le_of_not_lt hf
  unfold cpO cpS at h
  rw[if_neg (show ¬ f=23 from fun e=>by rw[e]at hf;exact absurd hf (by decide)),if_neg (show ¬ f=91 from fun e=>by rw[e]at hf;exact absurd hf (by decide)),cp_big f hf]at h
  split at h<;>cases h
def f929:Value:=.agg #[.int .i64 929,.int .i64 929,.int .i64 0]
noncomputable def scA:SC:=fun f args k d=>bB (Nat.beq f 176)
 (l3 args (fun x y z=>bB (eq3 (toV x) f929) (cI y (fun ka a=>cI z (fun kb b=>bB (Nat.beq (idI ka) 3) (bB (Nat.beq (idI kb) 3) (bB (Nat.ble a 928) (bB (Nat.ble b 928) (fN (Nat.mod (Nat.mul a b) 929) fun n=>k (.i .i64 n) 1) d) d) d) d) d) d) d) d)
 (bB (Nat.beq f 109) (l1 args (fun x=>cI x (fun ka a=>bB (Nat.beq (idI ka) 3) (bB (Nat.beq a 929) (k (.b true) 0) d) d) d) d) d)
theorem subO1:Sub (fun f=>if f=109 then some cf109 else none) cpO:=fun f cf h=>by
 simp only at h
 split at h
 ·rename_i e;subst e;exact h
 ·cases h
theorem idI3{k:IntKind}(h:Nat.beq (idI k) 3=true):k=.i64:=by cases k<;>first|rfl|cases h
theorem prodX(a b m lo:Nat)(H:Heap)(ha:a≤928)(hb:b≤928):run cpO (m+3) lo 176 [f929,.int .i64 a,.int .i64 b] H=some (.inl (.int .i64 ((a*b%929:Nat):Int)),H++[some [.int .i64 929,.int .i64 929,.int .i64 0]]):=by
 have hg:Heap.get (H++[some [.int .i64 929,.int .i64 929,.int .i64 0]]) H.length=some [.int .i64 929,.int .i64 929,.int .i64 0]:=get_push_self _ _
 unfold run
 rw[show cpO 176=some cf176 from rfl]
 simp only[cf176,bd176,f929,kB]
 have hm:=Nat.mul_le_mul ha hb
 have hw:IntKind.i64.wrap ((a:Int)*(b:Int))=((a*b:Nat):Int):=by
  rw[←Int.natCast_mul]
  exact wrap_i64 (by omega) (by omega)
 have hc:(Value.agg #[Value.int .i64 929,.int .i64 929,.int .i64 0]).cells.toList=[Value.int .i64 929,.int .i64 929,.int .i64 0]:=rfl
 simp[exec,evSets,evChk,ev,ev1,holds,hsem,lsem,setAll,binSem,binInt,hc,hg,Heap.cells,hw,evList,resultOf]
 exact Int.tmod_eq_emod_of_nonneg (by rw[←Int.natCast_mul];omega)
theorem scA_ok:SCok cpO scA 100:=by
 intro f args k d h
 unfold scA at h
 rcases hf:Nat.beq f 176 with _|_
 ·rw[hf]at h
  have h:bB (Nat.beq f 109) _ d=true:=h
  rcases hg:Nat.beq f 109 with _|_
  ·rw[hg]at h;exact .inl h
  ·rw[hg]at h
   have e:=Nat.eq_of_beq_eq_true hg
   subst e
   match args,h with
   | [],h=>exact .inl h
   | x::y::r,h=>exact .inl h
   | [.i ka a],h=>
    have h:bB (Nat.beq (idI ka) 3) (bB (Nat.beq a 929) (k (.b true) 0) d) d=true:=h
    rcases h1:Nat.beq (idI ka) 3 with _|_
    ·rw[h1]at h;exact .inl h
    rw[h1]at h
    have h:bB (Nat.beq a 929) (k (.b true) 0) d=true:=h
    rcases h2:Nat.beq a 929 with _|_
    ·rw[h2]at h;exact .inl h
    rw[h2]at h
    have e1:=idI3 h1
    have e2:=Nat.eq_of_beq_eq_true h2
    subst e1 e2
    exact .inr ⟨_,_,h,fun m hm lo H _=>⟨[],rfl,by rw[List.append_nil];exact run_sub subO1 m _ _ _ _ _ (run_le hm _ _ _ _ _ (primeY lo H))⟩⟩
   | [.b _],h=>exact .inl h
   | [.p _ _],h=>exact .inl h
   | [.s _ _ _ _ _],h=>exact .inl h
   | [.o _],h=>exact .inl h
 ·rw[hf]at h
  have e:=Nat.eq_of_beq_eq_true hf
  subst e
  match args,h with
  | [],h=>exact .inl h
  | [x],h=>exact .inl h
  | [x,y],h=>exact .inl h
  | x::y::z::w::r,h=>exact .inl h
  | [x,y,z],h=>
   have h:bB (eq3 (toV x) f929) (cI y (fun ka a=>cI z (fun kb b=>bB (Nat.beq (idI ka) 3) (bB (Nat.beq (idI kb) 3) (bB (Nat.ble a 928) (bB (Nat.ble b 928) (fN (Nat.mod (Nat.mul a b) 929) fun n=>k (.i .i64 n) 1) d) d) d) d) d) d) d=true:=h
   rcases h0:eq3 (toV x) f929 with _|_
   ·rw[h0]at h;exact .inl h
   rw[h0]at h
   cases y with
   | i ka a=>
    cases z with
    | i kb b=>
     have h:bB (Nat.beq (idI ka) 3) (bB (Nat.beq (idI kb) 3) (bB (Nat.ble a 928) (bB (Nat.ble b 928) (fN (Nat.mod (Nat.mul a b) 929) fun n=>k (.i .i64 n) 1) d) d) d) d=true:=h
     rcases h1:Nat.beq (idI ka) 3 with _|_
     ·rw[h1]at h;exact .inl h
     rw[h1]at h
     have h:bB (Nat.beq (idI kb) 3) (bB (Nat.ble a 928) (bB (Nat.ble b 928) (fN (Nat.mod (Nat.mul a b) 929) fun n=>k (.i .i64 n) 1) d) d) d=true:=h
     rcases h2:Nat.beq (idI kb) 3 with _|_
     ·rw[h2]at h;exact .inl h
     rw[h2]at h
     have h:bB (Nat.ble a 928) (bB (Nat.ble b 928) (fN (Nat.mod (Nat.mul a b) 929) fun n=>k (.i .i64 n) 1) d) d=true:=h
     rcases h3:Nat.ble a 928 with _|_
     ·rw[h3]at h;exact .inl h
     rw[h3]at h
     have h:bB (Nat.ble b 928) (fN (Nat.mod (Nat.mul a b) 929) fun n=>k (.i .i64 n) 1) d=true:=h
     rcases h4:Nat.ble b 928 with _|_
     ·rw[h4]at h;exact .inl h
     rw[h4]at h
     have hfin:fN (Nat.mod (Nat.mul a b) 929) (fun n=>k (.i .i64 n) 1)=true:=h
     rw[fN_eq]at hfin
     have e1:=idI3 h1
     have e2:=idI3 h2
     subst e1 e2
     refine .inr ⟨_,_,hfin,fun m hm lo H _=>⟨[some [.int .i64 929,.int .i64 929,.int .i64 0]],rfl,?_⟩⟩
     obtain⟨m,rfl⟩:∃q,m=q+3:=⟨m-3,by omega⟩
     have hx:toV x=f929:=eq3_ok h0
     show run cpO (m+3) lo 176 [toV x,.int .i64 a,.int .i64 b] H=_
     rw[hx]
     exact prodX a b m lo H (Nat.le_of_ble_eq_true h3) (Nat.le_of_ble_eq_true h4)
    | _=>exact .inl h
   | _=>exact .inl h
set_option maxHeartbeats 0 in
theorem genR:frun cpO scA 100 1000 0 175 [.o f929] (.mk 0 .e) (answN (.int .i64 3) 1394)=true:=by kernel_rfl
noncomputable def scS:SC:=fun f args k d=>bB (Nat.beq f 175) (l1 args (fun x=>bB (eq3 (toV x) f929) (k (.i .i64 3) 1394) d) d) (scA f args k d)
theorem scS_ok:SCok cpO scS 1100:=by
 intro f args k d h
 unfold scS at h
 rcases hf:Nat.beq f 175 with _|_
 ·rw[hf]at h
  rcases scA_ok f args k d h with h|⟨v,g,h1,h2⟩
  ·exact .inl h
  ·exact .inr ⟨v,g,h1,fun m hm=>h2 m (by omega)⟩
 ·rw[hf]at h
  have e:=Nat.eq_of_beq_eq_true hf
  subst e
  match args,h with
  | [],h=>exact .inl h
  | x::y::r,h=>exact .inl h
  | [x],h=>
   have h:bB (eq3 (toV x) f929) (k (.i .i64 3) 1394) d=true:=h
   rcases h0:eq3 (toV x) f929 with _|_
   ·rw[h0]at h;exact .inl h
   rw[h0]at h
   have hx:toV x=f929:=eq3_ok h0
   refine .inr ⟨_,_,h,?_⟩
   have:=fast_moved plainO scA_ok genR rfl rfl
   intro m hm lo H hlo
   show ∃G:Heap,G.length=1394∧run cpO m lo 175 [toV x] H=_
   rw[hx]
   exact this m hm lo H hlo
end Go.Proofs.YtgiojnobcjnibaaGreatDoor
