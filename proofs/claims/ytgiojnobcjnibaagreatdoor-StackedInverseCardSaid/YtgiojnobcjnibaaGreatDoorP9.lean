/- Lemmas. -/
import Derived.Test.YtgiojnobcjnibaaGreatDoorP8
import Derived.LaidSub
set_option linter.unusedVariables false
set_option linter.unusedSimpArgs false
set_option linter.unusedSectionVars false
namespace Go.Abs
structure Keep (b:Nat)(H H':Heap):Prop where
 len:H.length≤H'.length
 eq:∀i,i<H.length→i≠b→H'.get i=H.get i
theorem Keep.get{b:Nat}{H H':Heap}(h:Keep b H H'){i:Nat}{c:List Value}(hc:H.get i=some c)(hne:i≠b):H'.get i=some c:=(h.eq i (Heap.get_lt hc) hne).trans hc
theorem Keep.ext{b:Nat}{A H H':Heap}(h:Keep b H H')(e:Ext A H)(hb:A.length≤b):Ext A H':=⟨Nat.le_trans e.1 h.len,fun i hi=>(h.eq i (Nat.lt_of_lt_of_le hi e.1) (by omega)).trans (e.2 i hi)⟩
def Own(lo sz:Nat)(H:Heap)(v:Value)(b:Nat)(cells:List Value):Prop:=
 lo≤b∧((v=.slice none 0 0∧cells=[])∨∃n,0<n∧n*sz=cells.length∧v=.slice (some ⟨b,0,some sz⟩) n n∧H.get b=some cells)
theorem Own.nil{lo sz:Nat}{H:Heap}{b:Nat}(h:lo≤b):Own lo sz H (.slice none 0 0) b []:=⟨h,.inl ⟨rfl,rfl⟩⟩
theorem Own.mono{lo sz b:Nat}{H H':Heap}{v:Value}{c:List Value}(h:Own lo sz H v b c)(e:Ext H H'):Own lo sz H' v b c:=by
 obtain⟨h1,h|⟨n,a,b,c,d⟩⟩:=h
 ·exact⟨h1,.inl h⟩
 ·exact⟨h1,.inr ⟨n,a,b,c,e.get d⟩⟩
theorem Own.keep{lo sz b b':Nat}{H H':Heap}{v:Value}{c:List Value}(h:Own lo sz H v b c)(e:Keep b' H H')(hne:b≠b'):Own lo sz H' v b c:=by
 obtain⟨h1,h|⟨n,a,b,c,d⟩⟩:=h
 ·exact⟨h1,.inl h⟩
 ·exact⟨h1,.inr ⟨n,a,b,c,e.get d hne⟩⟩
theorem Own.len{lo sz b:Nat}{H:Heap}{v:Value}{c:List Value}(h:Own lo sz H v b c)(hs:0<sz):∃a n,v=.slice a n n∧n*sz=c.length∧n≤c.length:=by
 obtain⟨h1,⟨rfl,rfl⟩|⟨n,a,b,rfl,d⟩⟩:=h
 ·exact⟨_,_,rfl,by simp,by simp⟩
 ·exact⟨_,_,rfl,b,by rw[←b];exact Nat.le_mul_of_pos_right n hs⟩
section
variable {cp:FuncId→Option CF}{lo:Nat}
theorem wpH_app{sz:Nat}{z:List Value}{H:Heap}{v:Value}{b:Nat}{cells c c':List Value}{t o n m:Nat}{sp:Option Nat}{R:Value→Heap→Prop}(ho:Own lo sz H v b cells)(hlo:lo≤H.length)(hsz:0<sz)(hn:0<n)(hbig:cells.length+n≤4294967296)(ht:H.get t=some c')(hlen:o+n*sz≤c'.length)(hc:(c'.drop o).take (n*sz)=c)(h1:oneCells c=true)
  (k:∀v' H',Own lo sz H' v' H.length (cells++c)→Keep b H H'→H'.length=H.length+1→R v' H'):wpH cp lo (.app sz z) [v,.slice (some ⟨t,o,sp⟩) n m] H R:=by
 have hcl:c.length=n*sz:=by rw[←hc];simp;omega
 obtain⟨hb,⟨rfl,rfl⟩|⟨len,hl0,hl1,rfl,hg⟩⟩:=ho
 ·have e:=hs_app_nil (lo:=lo) (H:=H) (sz:=sz) (z:=z) (i:=t) (o:=o) (n:=n) (m:=m) (sp:=sp) ⟨hn,by simpa using hbig⟩
  rw[ht]at e
  simp only[hlen,hc,h1,and_self,if_true]at e
  simp only[wpH]
  rw[e]
  refine k _ _ ⟨hlo,.inr ⟨n,hn,by simpa using hcl.symm,rfl,by rw[get_app0];simp⟩⟩ ⟨by simp,fun i hi _=>get_app_lt hi⟩ (by simp)
 ·have hle:len≤cells.length:=by rw[←hl1];exact Nat.le_mul_of_pos_right len hsz
  have e:=hs_app_in (lo:=lo) (H:=H) (sz:=sz) (z:=z) (b:=b) (o:=0) (len:=len) (i:=t) (o':=o) (n:=n) (m:=m) (sp:=sp) hb ⟨hn,by omega⟩
  rw[ht,hg]at e
  simp only[hlen,hc,h1,and_self,if_true,Nat.zero_add,hl1,Nat.le_refl,List.drop_zero,List.take_length]at e
  simp only[wpH]
  rw[e]
  refine k _ _ ⟨hlo,.inr ⟨len+n,by omega,by rw[Nat.add_mul,hl1,List.length_append,hcl],rfl,?_⟩⟩ ⟨by simp,fun i hi hne=>?_⟩ (by simp)
  ·have:(H.set b none).length=H.length:=by simp
   rw[←this,get_app0]
  ·rw[get_app_lt (by simpa using hi),get_set_ne (fun e=>hne e.symm)]
theorem aw_for{id id2:Nat}{c:E}{body inc:Stm}{Q:Post}{S:List Value}{H:Heap}(I:Nat→List Value→Heap→Prop)(N:Nat)(h0:I 0 S H)
  (hc:∀k S H,k≤N→I k S H→∃t,ev1 S H c=some (.bool t)∧(t=true↔k<N))
  (hb:∀k S H,k<N→I k S H→wpS cp lo (.block id2 body) (seqQ cp lo inc (midX (I (k+1)) (blockQ id Q))) S H)
  (he:∀S H,I N S H→Q .normal S H):wpS cp lo (.loop (.seq (.cond c .skip (.exit id)) (.seq (.block id2 body) inc))) (blockQ id Q) S H:=by
 refine aw_loop' (fun m S H=>∃k,k≤N∧m=N-k∧I k S H) N ⟨0,by omega,by omega,h0⟩ ?_
 rintro m S H ⟨k,hk,rfl,hI⟩
 rw[aw_seq]
 obtain⟨t,ht,hiff⟩:=hc k S H hk hI
 refine aw_cond ht (fun h=>?_) (fun h=>?_)
 ·have hlt:=hiff.1 h
  rw[aw_skip,seqQ_n,aw_seq]
  refine(hb k S H hlt hI).mono ?_
  intro ex S' H' hq
  cases ex with
  | normal=>
   rw[seqQ_n]at hq ⊢
   refine hq.mono ?_
   intro ex S' H' hq
   cases ex with
   | normal=>rw[midX_n]at hq;exact⟨N-(k+1),by omega,k+1,by omega,rfl,hq⟩
   | exit i=>rw[midX_e]at hq;exact hq
   | ret=>rw[midX_r]at hq;exact hq
  | exit i=>rw[seqQ_e]at hq ⊢;rw[midX_e]at hq;exact hq
  | ret=>rw[seqQ_r]at hq ⊢;rw[midX_r]at hq;exact hq
 ·have hge:k=N:=by
   have:¬ k<N:=fun h2=>by rw[hiff.2 h2]at h;cases h
   omega
  subst hge
  rw[aw_exit,seqQ_e]
  show blockQ id Q (.exit id) S H
  rw[blockQ_e,if_pos rfl]
  exact he S H hI
end
def Sl{α:Type}(enc:α→Value)(H:Heap)(v:Value)(l:List α):Prop:=
 (v=.slice none 0 0∧l=[])∨∃b o sp cap xs,v=.slice (some ⟨b,o,sp⟩) l.length cap∧H.get b=some xs∧(xs.drop o).take l.length=l.map enc∧o+l.length≤xs.length∧(sp=none∨sp=some 1)∧l.length≤cap
theorem Sl.mono{α:Type}{enc:α→Value}{H H':Heap}{v:Value}{l:List α}(h:Sl enc H v l)(e:Ext H H'):Sl enc H' v l:=by
 rcases h with h|⟨b,o,sp,cap,xs,h1,h2,h3⟩
 ·exact .inl h
 ·exact .inr ⟨b,o,sp,cap,xs,h1,e.get h2,h3⟩
theorem Sl.len{α:Type}{enc:α→Value}{H:Heap}{v:Value}{l:List α}(h:Sl enc H v l):∃a c,v=.slice a l.length c:=by
 rcases h with ⟨rfl,rfl⟩|⟨b,o,sp,cap,xs,h1,_⟩
 ·exact⟨_,_,rfl⟩
 ·exact⟨_,_,h1⟩
theorem Sl.els{α:Type}{enc:α→Value}(d:α){H:Heap}{v:Value}{l:List α}(h:Sl enc H v l)(hl:0<l.length):∃b o sp cap xs,v=.slice (some ⟨b,o,sp⟩) l.length cap∧H.get b=some xs∧(∀i,i<l.length→xs[o+i]?=some (enc (l.getD i d)))∧o+l.length≤xs.length:=by
 rcases h with ⟨rfl,rfl⟩|⟨b,o,sp,cap,xs,h1,h2,h3⟩
 ·simp at hl
 ·obtain⟨h3,hlen,_⟩:=h3
  refine⟨b,o,sp,cap,xs,h1,h2,fun i hi=>?_,hlen⟩
  have e:((xs.drop o).take l.length)[i]?=(l.map enc)[i]?:=by rw[h3]
  rw[List.getElem?_take,if_pos hi,List.getElem?_drop]at e
  rw[e,List.getElem?_map,List.getElem?_eq_getElem hi,List.getD_eq_getElem?_getD,List.getElem?_eq_getElem hi]
  rfl
theorem Sl.ofOwn{α:Type}{enc:α→Value}{lo:Nat}{H:Heap}{v:Value}{b:Nat}{l:List α}(h:Own lo 1 H v b (l.map enc)):Sl enc H v l:=by
 obtain⟨_,⟨rfl,h⟩|⟨n,_,h1,rfl,h2⟩⟩:=h
 ·exact .inl ⟨rfl,by simpa using h⟩
 ·have:n=l.length:=by simpa using h1
  subst this
  refine .inr ⟨b,0,some 1,_,_,rfl,h2,?_,by simp,.inr rfl,Nat.le_refl _⟩
  rw[List.drop_zero,List.take_of_length_le (by simp)]
theorem Sl.whole{α:Type}{enc:α→Value}{H:Heap}{b n:Nat}{sp:Option Nat}{l:List α}(h:H.get b=some (l.map enc))(hn:l.length=n)(hsp:sp=none∨sp=some 1:=by first|exact .inl rfl|exact .inr rfl):Sl enc H (.slice (some ⟨b,0,sp⟩) n n) l:=by
 subst hn
 refine .inr ⟨b,0,sp,_,_,rfl,h,?_,by simp,hsp,Nat.le_refl _⟩
 rw[List.drop_zero,List.take_of_length_le (by simp)]
theorem hasN_int{B:Nat}{H:Heap}{k:IntKind}:∀(n:Nat) (c:List Value),HasN (Has B H (.int k)) n c→∃l:List Int,l.length=n∧c=l.map (Value.int k)∧∀x ∈ l,k.min≤x∧x≤k.max
 | 0,c,h=>by simp only[HasN]at h;subst h;exact⟨[],rfl,rfl,by simp⟩
 | n+1,c,h=>by
  simp only[HasN]at h
  obtain⟨a,b,rfl,ha,hb⟩:=h
  obtain⟨l,h1,rfl,h3⟩:=hasN_int n b hb
  simp only[Has]at ha
  obtain⟨x,rfl,hx⟩:=ha
  refine⟨x::l,by simp[h1],rfl,?_⟩
  intro y hy
  rcases List.mem_cons.1 hy with rfl|hy
  ·exact hx
  ·exact h3 y hy
theorem has_slI{B:Nat}{H:Heap}{k:IntKind}{v:Value}(h:Has B H (.sl (.int k)) [v]):∃l:List Int,Sl (Value.int k) H v l∧l.length≤B∧(∀x ∈ l,k.min≤x∧x≤k.max)∧((v=.slice none 0 0∧l=[])∨∃(b cap:Nat) (xs:List Int),v=.slice (some ⟨b,0,none⟩) l.length cap∧H.get b=some (xs.map (Value.int k))∧l=xs.take l.length∧l.length≤xs.length):=by
 simp only[Has]at h
 rcases h with h|⟨i,len,cap,c,h1,h2,h3,h4,h5,h6⟩
 ·cases h
  exact⟨[],.inl ⟨rfl,rfl⟩,by simp,by simp,.inl ⟨rfl,rfl⟩⟩
 ·cases h1
  obtain⟨xs,hl,rfl,hr⟩:=hasN_int (B:=B) (H:=H) _ _ h6
  have hlen:(xs.take len).length=len:=by simp;omega
  refine⟨xs.take len,.inr ⟨i,0,none,cap,_,by rw[hlen],h5,by rw[List.drop_zero,hlen,List.map_take],by simp;omega,.inl rfl,by simp;omega⟩,by omega,fun x hx=>hr x (List.mem_of_mem_take hx),.inr ⟨i,cap,xs,by rw[hlen],h5,by rw[hlen],by omega⟩⟩
section
variable {cp:FuncId→Option CF}{lo:Nat}{l:List (Nat×E)}{chk:List E}{pc:PC}{dst:Option Nat}{o:HOp}{a:E}{Q:Post}{S S':List Value}{H H':Heap}{vs:List (Nat×Value)}{xs:List Value}{v:Value}
theorem aw_hvT(h:evSets S H l=some vs)(hc:evChk S H chk=true)(hp:holds S H pc=some true)(ha:ev S H a=some xs)(k:wpH cp lo o xs H fun v H'=>Q .normal (setD (setAll S vs) dst v) H'):wpS cp lo (.hv l chk pc dst o a) Q S H:=
 aw_hv_if h hc hp (fun _=>⟨xs,ha,k⟩) (fun h=>by cases h)
end
abbrev SlI:=Sl (Value.int .i64)
open Go.RowKit Go.ChangeShapes Go.WideShapes
section
variable {P:Program}{w W:World}{X:Type}{enc:TypeId×Value→X}
def Known(ga:List (Option (List Value)))(w:World):Prop:=∀(g:Nat) (c:List Value),ga[g]?=some (some c)→c.all plain1=true∧∃(arr:Array Value) (ty:TypeId) (fr:Nat×Nat),w.heap[g]?=some (.cells arr ty fr)∧arr.toList=c
theorem start_hrG{ga:List (Option (List Value))}(hG:ga.length≤w.heap.size)(h:Known ga w) :
  ∃φ,HR φ ga.length ga w:=by
 let n:Nat→Nat:=fun g=>match w.heap[g]? with
  | some (.cells arr _ _)=>arr.size
  | _=>0
 refine⟨fun i=>if i<ga.length then some ⟨i,0,n i,0⟩ else none,fun i c hc=>?_,fun i p hp=>?_,fun g hg=>⟨n g,by simp[hg]⟩,fun i p hp=>?_⟩
 ·rw[get_of]at hc
  obtain⟨hp,arr,ty,fr,h1,h2⟩:=h i c hc
  have hi:i<ga.length:=(List.getElem?_eq_some_iff.1 hc).1
  have hn:n i=arr.size:=by simp only[n,h1]
  subst h2
  refine⟨⟨i,0,n i,0⟩,arr,ty,fr,Map.of_some.2 ⟨by simp[hi],rfl⟩,h1,by simp[hn],by simp[hn],fun j v hv=>?_⟩
  refine⟨v,by simpa using hv,?_⟩
  exact(plainAll_rel _ hp).2 j v v hv hv
 ·split at hp
  ·assumption
  ·simp at hp
 ·split at hp
  ·cases hp;simp;omega
  ·simp at hp
theorem law_contractG{f:FuncId}{fn:Func}{s:ChangeSpec}{cp:FuncId→Option CF}(hok:∀base n,RunOK P base P.globals.size (run cp n)){d:Nat}{tys:List Ty}{bt:TypeId}
  (hty:fn.params.toList.map (tyOf P d)=tys.map some) (hsh:tys.all Ty.shallow=true) (hres:fn.resultTypes=#[bt]) (hbt:P.underlying bt=some .bool) (hl:laidOutB P=true)
  (hread:fn.params.toList.all (fun t=>P.readableRec t&&decide (t<P.types.size))=true) (hvars:s.vars=[]) (hfn:∀(X:Type) (ds:List (DataW X)),ds.length=tys.length→s.fn X ds=⟨[.lit (.bool true)],ds,[]⟩)
  {B:Nat} {ga:List (Option (List Value))} (hga:ga.length=P.globals.size) (law:∀(H:Heap) (vs:List Value),Longer ga H→HasArgs B H tys vs→Ev cp H.length f vs H (fun v _=>v=.bool true))
  (W:World) (hG:P.globals.size≤W.heap.size) (hgW:Known ga W) (base:Nat) (args:Array Value) (ds gs:List (DataW X)) (before:List MemPlace)
  (hval:∀(j:Nat) t v,fn.params[j]?=some t→args[j]?=some v→Value.okWide P W .any base t v)
  (hW:DataW.Whole enc P fn.params.toList s.vars false W args.toList ds gs before) (hB:∀x ∈ ds,Small B x) :
  Calls P f args W fun e W'=>∃v,e=.returned v∧s.post enc P fn false true false false W args v W':=by
 have hW':=hW
 obtain⟨p,q,hA,hV,rfl,hfz,hnd⟩:=hW
 rw[hvars]at hV
 obtain⟨rfl,rfl⟩:=trodVars_none hV
 have hA':DataW.TrodAll enc P W 0 (fun _=>true) true fn.params.toList args.toList ds p:=hA
 obtain⟨φ0,h0⟩:=start_hrG (by rw[hga];exact hG) hgW
 obtain⟨φ,H,avs,b1,b2,b3,b4,b5⟩:=lift_args (B:=B) fn.params.toList tys args.toList ds p hty (List.all_eq_true.1 hsh) hA' (fun j t v h1 h2=>hval j t v (by simpa using h1) (by simpa using h2)) hB h0 (Nat.le_refl _)
 rw[hga]at b1
 have hc:=calls_of_ev hok b1.rel b5 (law H avs b3 b4)
 refine hc.mono fun e W' ⟨v,cv,H',φ',hv,he,hE,hrel⟩=>?_
 subst hv
 cases hrel
 have hblk:∀b,b<W.heap.size→W'.heap[b]?=W.heap[b]?:=fun b hb=>hE.keep b hb (fun i c p hi hc=>absurd (Heap.get_lt hc) (by omega))
 have hsame:∀p:MemPlace,p.block<W.heap.size→W.sameAt W' p:=by
  intro p hp
  cases p with
  | cell b o=>exact World.cell?_of_block (w:=W) (hblk b hp)
  | map b=>exact hblk b hp
 have hdl:ds.length=tys.length:=by
  have h1:∀(ts:List TypeId) (vs:List Value) (ds:List (DataW X)) (ps:List MemPlace),DataW.TrodAll enc P W 0 (fun _=>true) true ts vs ds ps→ds.length=ts.length:=by
   intro ts
   induction ts with
   | nil=>intro vs ds ps h;obtain⟨rfl,rfl,rfl⟩:=trodAll_nil h;rfl
   | cons t ts ih=>intro vs ds ps h;obtain⟨v,vs,x,ds,p,q,rfl,rfl,rfl,h0,hx⟩:=trodAll_cons h;simp[ih _ _ _ hx]
  have:=congrArg List.length hty
  simp at this
  rw[h1 _ _ _ _ hA'];simpa using this
 have hs:s.fn X (ds++[])=⟨[.lit (.bool true)],ds,[]⟩:=by rw[List.append_nil];exact hfn X ds hdl
 refine⟨_,he,ds,[],p++[],[],p,[],hW',?_,?_,?_,?_,fun h=>by cases h⟩
 ·rw[hs,hres]
  exact trodAll_mk1 (shut_bool hbt true)
 ·rw[hs]
  exact trodAll_stays hl hsame _ _ _ _ (fun t ht=>by simpa using List.all_eq_true.1 hread t ht) hA'
 ·rw[hs,hvars];rfl
 ·refine⟨hE.os,hE.out,fun i hi=>?_⟩
  rw[hblk i hi]
  split<;>simp_all
theorem laid_size{laid:List (String×DataW Unit)}{name:String}{g:Nat}{d:DataW Unit}(hL:laidMetH P laid W)(hm:(laid.filter fun x=>x.1==name)=[(name,d)])(hd:d.handleName?=none)(hg:P.globalNamed name=some g):g<W.heap.size:=by
 have h1:=laidMetH.filter (fun x=>x.1==name) hL
 rw[hm]at h1
 have h2:=(laidMetH_iff.1 h1).1
 have hf:([(name,d)].filter fun x=>x.2.handleName?.isNone)=[(name,d)]:=by simp[hd]
 rw[hf]at h2
 obtain⟨ps,⟨g',t',cs,fuel,p,q,e1,e2,e3,e4,_⟩,_⟩:=h2
 obtain rfl:=Option.some.inj (hg.symm.trans e1)
 simp only[World.var?,hg,Option.bind_some]at e3
 split at e3
 ·rename_i c ty fr hh;exact(Array.getElem?_eq_some_iff.1 hh).1
 ·cases e3
end
def Sub(c1 c2:FuncId→Option CF):Prop:=∀f cf,c1 f=some cf→c2 f=some cf
theorem runR_sub{c1 c2:FuncId→Option CF}(hs:Sub c1 c2){a b:CallR}(hc:CLeR a b){lo n:Nat}{g:FuncId}{args:List Value}{rv:Value}{H H':Heap}(h:runR c1 a lo n g args rv H=some H'):runR c2 b lo n g args rv H=some H':=by
 have h1:=runR_le (cp:=c1) hc (Nat.le_refl n) h
 unfold runR at h1 ⊢
 cases hg:c1 g with
 | none=>rw[hg]at h1;simp at h1
 | some cg=>rw[hs g cg hg];rw[hg]at h1;exact h1
theorem run_sub{c1 c2:FuncId→Option CF}(hs:Sub c1 c2):∀n,CLeR (run c1 n) (run c2 n)
 | 0=>fun _ _ _ _ _ h=>by simp[run]at h
 | n+1=>fun lo f args H r h=>by
  have ih:=run_sub hs n
  simp only[run]at h ⊢
  cases hf:c1 f with
  | none=>rw[hf]at h;simp at h
  | some cf=>
  rw[hs f cf hf]
  rw[hf]at h
  simp only at h ⊢
  split at h<;>try (simp at h;done)
  rename_i hl
  simp only[hl,if_true]
  split at h
  ·split at h
   ·rename_i S1 H1 h1
    rw[exec_le ih (Nat.le_refl n) _ _ _ _ h1];exact h
   ·rename_i S1 H1 h1
    rw[exec_le ih (Nat.le_refl n) _ _ _ _ h1];exact h
   ·rename_i j q S1 H1 h1
    rw[exec_le ih (Nat.le_refl n) _ _ _ _ h1];exact h
   ·simp at h
  ·have h1:=runD_le (cp:=c1) ih (Nat.le_refl n) h
   unfold runD at h1 ⊢
   split at h1
   ·exact h1
   ·exact h1
   ·split at h1<;>try (simp at h1;done)
    split at h1<;>try (simp at h1;done)
    split at h1
    ·split at h1<;>try (simp at h1;done)
     rename_i hrr
     simp only[runR_sub hs (fun _ _ _ _ _ h=>h) hrr];exact h1
    ·split at h1<;>try (simp at h1;done)
     rename_i hrr
     simp only[runR_sub hs (fun _ _ _ _ _ h=>h) hrr];exact h1
    ·split at h1<;>try (simp at h1;done)
     rename_i hi
     split at h1<;>try (simp at h1;done)
     rename_i hrr
     simp only[if_pos hi,runR_sub hs (fun _ _ _ _ _ h=>h) hrr];exact h1
    ·simp at h1
   ·simp at h1
  ·simp at h
  ·exact h
theorem Ev.sub{c1 c2:FuncId→Option CF}(hs:Sub c1 c2){lo:Nat}{f:FuncId}{args:List Value}{H:Heap}{R:Value→Heap→Prop}(h:Ev c1 lo f args H R):Ev c2 lo f args H R:=by
 obtain⟨N,v,H',h1,h2⟩:=h
 exact⟨N,v,H',fun n hn=>run_sub hs n _ _ _ _ _ (h1 n hn),h2⟩
open Go.ChangeShapes Go.WideShapes Go.ChangeAt Go.RowKit
mutual
def HasW(B:Nat)(H:Heap):Ty→List Value→Prop
 | .bool,vs=>∃b,vs=[.bool b]
 | .int k,vs=>∃n,vs=[.int k n]∧k.min≤n∧n≤k.max
 | .str,vs=>∃s:ByteArray,vs=[.string s]∧s.size≤B
 | .rcd l,vs=>HasAllW B H l vs
 | .arr n e,vs=>HasN (HasW B H e) n vs
 | .sl e,vs=>vs=[.slice none 0 0]∨(∃i len cap c,vs=[.slice (some ⟨i,0,none⟩) len cap]∧len≤cap∧cap≤B∧i<H.length∧H.get i=some c∧HasN (HasW B H e) cap c)∨∃i,vs=[.slice (some ⟨i,0,some 1⟩) 0 0]∧H.get i=some []
def HasAllW(B:Nat)(H:Heap):List Ty→List Value→Prop
 | [],vs=>vs=[]
 | t::r,vs=>∃a b,vs=a++b∧HasW B H t a∧HasAllW B H r b
end
mutual
theorem HasW.mono{B:Nat}{H H':Heap}(h:Longer H H'):∀(t:Ty) (vs:List Value),HasW B H t vs→HasW B H' t vs
 | .bool,_,e=>by simpa only[HasW]using e
 | .int k,_,e=>by simpa only[HasW]using e
 | .str,_,e=>by simpa only[HasW]using e
 | .rcd l,vs,e=>by simp only[HasW]at e ⊢;exact HasAllW.mono h l vs e
 | .arr n e,vs,x=>by simp only[HasW]at x ⊢;exact HasN.mono (fun vs=>HasW.mono h e vs) n vs x
 | .sl e,vs,x=>by
  simp only[HasW]at x ⊢
  rcases x with x|⟨i,len,cap,c,h1,h2,h3,h4,h5,h6⟩|⟨i,h1,h2⟩
  ·exact .inl x
  ·exact .inr (.inl ⟨i,len,cap,c,h1,h2,h3,Nat.lt_of_lt_of_le h4 h.len,h.get h5,HasN.mono (fun vs=>HasW.mono h e vs) cap c h6⟩)
  ·exact .inr (.inr ⟨i,h1,h.get h2⟩)
theorem HasAllW.mono{B:Nat}{H H':Heap}(h:Longer H H'):∀(l:List Ty) (vs:List Value),HasAllW B H l vs→HasAllW B H' l vs
 | [],_,e=>by simpa only[HasAllW]using e
 | t::r,vs,e=>by
  simp only[HasAllW]at e ⊢
  obtain⟨a,b,h1,h2,h3⟩:=e
  exact⟨a,b,h1,HasW.mono h t a h2,HasAllW.mono h r b h3⟩
end
section
variable {X:Type}{enc:TypeId×Value→X}{P:Program}{w:World}{B:Nat}
structure LiftedW (φ:Map)(G:Nat)(H:Heap)(w:World)(B:Nat)(ty:Ty)(cs:List Value)(φ':Map)(H':Heap)(vs:List Value):Prop where
 hr:HR φ' G H' w
 le:φ.le φ'
 longer:Longer H H'
 has:HasW B H' ty vs
 rel:LRel φ' vs cs
def DeepSl(B:Nat)(H:Heap)(e:Ty)(v:Value):Prop:=v=.slice none 0 0∨∃i len cap c,v=.slice (some ⟨i,0,none⟩) len cap∧len≤cap∧cap≤B∧H.get i=some c∧HasN (HasW B H e) cap c
theorem DeepSl.mono{H H':Heap}(h:Longer H H'){e:Ty}{v:Value}(x:DeepSl B H e v):DeepSl B H' e v:=by
 rcases x with x|⟨i,len,cap,c,h1,h2,h3,h5,h6⟩
 ·exact .inl x
 ·exact .inr ⟨i,len,cap,c,h1,h2,h3,h.get h5,HasN.mono (fun vs=>HasW.mono h e vs) cap c h6⟩
def HasArgD(B:Nat)(H:Heap)(ty:Ty)(v:Value):Prop:=(ty.shallow=true∧HasArg B H ty v)∨(ty.shallow=false∧∃e,ty=.sl e∧DeepSl B H e v)
theorem HasArgD.mono{H H':Heap}(h:Longer H H'){ty:Ty}{v:Value}(e:HasArgD B H ty v):HasArgD B H' ty v:=by
 rcases e with ⟨h1,h2⟩|⟨h0,e,rfl,h2⟩
 ·exact .inl ⟨h1,h2.mono h⟩
 ·exact .inr ⟨h0,e,rfl,h2.mono h⟩
end
end Go.Abs
