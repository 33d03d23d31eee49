/- Lemmas. -/
import Derived.Test.YtmnlgdpdgjbfgaaGreatD5
set_option linter.all false
namespace Go.Abs
section
variable {ds:List Deferred}{P:Program}{callA:dm}{base lo nt:Nat}{ops:List Oper}{Ts:Nat->Raw}{Hs:Nat->Heap}{φ0:Map}{w0:World}{A:Nat->Prop}{a:Act}{w:World}{p:Nat}{ψ Φ:Map}
theorem AO{hh:HOp}{vs:List Value}{H H':Heap}{v:Value}(r2:hh.isAlloc=true)(hsm:Abs.hsem callA lo hh vs H=some (v,H')):∃c,H'=H++[some c]:=by
 cases hh<;>simp[HOp.isAlloc]at r2
 ·cases vs<;>simp[hsem]at hsm
  grind
 ·rcases vs with _|⟨a,_|⟨b,r⟩⟩<;>simp[hsem]at hsm
  grind
 ·unfold Abs.hsem at hsm
  grind
 ·grind[hsem,Option.map_eq_some_iff]
 ·rcases vs with _|⟨a,_|⟨b,r⟩⟩<;>try (simp[Abs.hsem]at hsm)
  ·grind
theorem DC.lens(D:DC P callA base lo nt ops Ts Hs φ0)(hn:(ord P ops).length=ops.length):∀k m,m+k<=ops.length->(Hs m).length<=(Hs (m+k)).length:=by
 intro k
 induction k with
 | zero=>simp_all
 | succ k ih=>
  intro m hm;obtain⟨i,hi,hp⟩:=D.at_pos (m:=m+k) byO hn;have:=(D.same i _ (bb₀ hi)).1
  grind
theorem DC.len_le(D:DC P callA base lo nt ops Ts Hs φ0)(hn:(ord P ops).length=ops.length){m m':Nat}(h:m<=m')(hm:m'<=ops.length):(Hs m).length<=(Hs m').length:=by
 obtain⟨k,rfl⟩:∃k,m'=m+k:=⟨m'-m,byO⟩;exact D.lens hn k m hm
theorem DC.made(D:DC P callA base lo nt ops Ts Hs φ0){i:Nat}{o:Oper}(ho:ops[i]?=some o)(hk:kd P ops i=2)(hw:bR ops (Ts (ps P ops i)) o=true) :
  ∃v hh xs c,bL P o.op=some (.h hh,xs)/\resolve P o.op=(.h hh,xs)/\hh.isAlloc=true/\Abs.hsem callA lo hh (xs.map (az (Ts (ps P ops i)))) (Hs (ps P ops i))=some (v,Hs (ps P ops i+1)) /\
   Hs (ps P ops i+1)=Hs (ps P ops i)++[some c]/\Ts (ps P ops i+1)=eU (Ts (ps P ops i)) o.dst v:=by
 obtain⟨v,h1,h2⟩:=D.step i o ho;rcases h2 with ⟨_,hs⟩|⟨hw',_,_⟩
 ·rw[D.kd_at ho]at hk
  obtain⟨hh,xs,r0,r1,r2⟩:=qa hk;unfold mO at hs;rw[r1]at hs;simp only at hs;have hsr:cD (bS P ops true i) hh=hh:=by cases hh<;>first|rfl|simp[HOp.isAlloc]at r2
  rw[hsr]at hs;have hnew:=AO r2 hs;obtain⟨c,hc⟩:=hnew;exact⟨v,hh,xs,c,r0,r1,r2,hs,hc,h1⟩
 ·rw[hw]at hw';simp at hw'
theorem DC.pos_of_len(D:DC P callA base lo nt ops Ts Hs φ0)(hn:(ord P ops).length=ops.length){m m':Nat}(hm:m<=ops.length)(h:(Hs m).length<(Hs m').length):m<m':=by
 grind[len_le]
theorem DC.made_ne(D:DC P callA base lo nt ops Ts Hs φ0)(hn:(ord P ops).length=ops.length){i k:Nat}{o q:Oper}(ho:ops[i]?=some o)(hk:kd P ops i=2)(hw:bR ops (Ts (ps P ops i)) o=true)
  (ho':ops[k]?=some q) (hk':kd P ops k=2) (hw':bR ops (Ts (ps P ops k)) q=true) (hik:i≠k):(Hs (ps P ops i)).length≠(Hs (ps P ops k)).length:=by
 have hi:i<ops.length:=(List.getElem?_eq_some_iff.1 ho).1;have hkl:k<ops.length:=(List.getElem?_eq_some_iff.1 ho').1;obtain⟨_,_,_,c,_,_,_,_,e1,_⟩:=D.made ho hk hw;obtain⟨_,_,_,c',_,_,_,_,e2,_⟩:=D.made ho' hk' hw';have hne:ps P ops i≠ps P ops k:=by
  have h1:=(D.pos i hi).2
  grind[pos]
 have hpi:=(D.pos i hi).1;have hpk:=(D.pos k hkl).1;rcases Nat.lt_or_gt_of_ne hne with h|h
 all_goals grind[len_le]
theorem JD.down'(J:JD ds P base lo nt ops Ts Hs φ0 w0 A a w p ψ Φ){i:Nat}(hpre:∀j ∈ bf ops i,A j):∀x j,(A x\/x=i)->x<ops.length->j ∈ bf ops x->A j\/j=i:=by
 grind[down]
theorem HRel.ext{w':World}{G:Nat}{H:Heap}(h:HRel ψ base G H w)(hs:w.heap.size<=w'.heap.size)(e:∀b,b<w.heap.size->w'.heap[b]?=w.heap[b]?):HRel ψ base G H w':=
 ⟨fun i c hc=>by
  obtain⟨p,arr,ty,fr,e1,e2,e3⟩:=h.cell i c hc;exact⟨p,arr,ty,fr,e1,by rw[e _ (h.plc i p e1)];exact e2,e3⟩,h.inj,h.dom,h.glob,fun i p hp=>bc₀ (h.plc i p hp) hs⟩
theorem JD.reader_block(D:DC P callA base lo nt ops Ts Hs φ0)(hn:(ord P ops).length=ops.length)(J:JD ds P base lo nt ops Ts Hs φ0 w0 A a w p ψ Φ){i:Nat}{o:Oper}(ho:ops[i]?=some o)(hk:kd P ops i=1)(hpre:∀j ∈ bf ops i,A j)(hnA:¬ A i)
  {x:Operand} (hx:cU P ops i=some x) {id:Nat} (hb:ag (az (Ts (ps P ops i)) x)=some id) {c:List Value} (hc:(Hs (ps P ops i)).get id=some c) {q:Place} (hq:Φ id=some q) :
  ∃arr ty fr,w.heap[q.b]?=some (.cells arr ty fr)/\arr.size=q.s+q.n/\c.length<=q.n/\∀(j:Nat) v,c[j]?=some v->∃u,arr[q.s+j]?=some u/\VRel Φ v u:=by
 have hi:i<ops.length:=(List.getElem?_eq_some_iff.1 ho).1;have hpi:=(D.pos i hi).1;have hlt:=Heap.get_lt hc;have later:∀j,j<ops.length->kd P ops j=3->p<=ps P ops j->ps P ops i<=ps P ops j:=by
  intro j hj hkj hpj;have hnj:¬ A j:=fun h=>by have:=(J.mov j hj hkj).1 h;omega
  have hji:j≠i:=fun e=>by subst e;omega
  by_cases hord:j ∈ bf ops i\/i ∈ bf ops j
  ·rcases hord with h|h
   ·exact absurd (hpre j h) hnj
   ·have:=D.bpos j hj i h;omega
  ·have:=(D.mov j i hj hi hji hkj hord).2.2 hk;omega
 rcases J.dom id q hq with hψ|⟨k,ok,q1,q2,q3,q4,q5,q6⟩
 ·have hidp:=J.rel.dom id q hψ
  have same:(Hs p).get id=some c:=by
   by_cases hpm:p<=ps P ops i
   ·obtain⟨d,hd⟩:∃d,ps P ops i=p+d:=⟨ps P ops i-p,byO⟩
    have:=(D.level hn p d byO (fun j hj hkj hpj=>by have:=later j hj hkj hpj;omega)).2.1 id hidp;rw[<-hd]at this;rw[<-this];exact hc
   ·
    have key:∀d,ps P ops i+d<=p->(Hs (ps P ops i+d)).get id=some c:=by
     intro d
     induction d with
     | zero=>intro _;exact hc
     | succ d ih=>
      intro hd;have ih:=ih byO;have hplen:=J.ple;obtain⟨j,hj,hp⟩:=D.at_pos (m:=ps P ops i+d) byO hn;have hoj:ops[j]?=some ops[j]:=bb₀ hj;rw[<-Nat.add_assoc];by_cases hkj:kd P ops j=3
      ·have hAj:A j:=(J.mov j hj hkj).2 byO
       have hji:j≠i:=fun e=>hnA (e▸hAj);have hord:¬ (j ∈ bf ops i\/i ∈ bf ops j):=by
        rintro(h|h)
        ·have:=D.bpos i hi j h;omega
        ·exact hnA (J.down j i hAj hj h)
       have:=((D.mov j i hj hi hji hkj hord).2.2 hk).2 id (by rw[hp];exact Heap.get_lt ih) (fun y hy=>by rw[hx]at hy;cases hy;exact hb);rw[hp]at this;rw[this];exact ih
      ·
       have lv:=D.level hn (ps P ops i+d) 1 byO (fun j' hj' hkj' hpj'=>by
        refine Decidable.byContradiction fun hcon=>?_;have e:ps P ops j'=ps P ops i+d:=byO;have h1:=(D.pos j' hj').2;rw[e,<-hp,(D.pos j hj).2]at h1;simp at h1;subst h1;exact hkj hkj')
       rw[lv.2.1 id (Heap.get_lt ih)];exact ih
    have:=key (p-ps P ops i) byO;rw[show ps P ops i+(p-ps P ops i)=p by omega]at this;exact this
  obtain⟨q',arr,ty,fr,e1,e2,e3,e4,e5,_⟩:=J.rel.cell id c same;rw[hψ]at e1;cases e1;exact⟨arr,ty,fr,e2,e3,e4,fun j v hv=>by obtain⟨u,hu,hr⟩:=e5 j v hv;exact⟨u,hu,hr.mono J.le⟩⟩
 ·obtain⟨q',arr,ty,fr,a1,a2,a3,a4,⟨c',a5,a6,a7⟩,_,_⟩:=J.al k ok q1 q2 q3 q4 q5
  rw[<-q6]at a1 a5;rw[hq]at a1;cases a1;have hkl:k<ops.length:=(List.getElem?_eq_some_iff.1 q1).1;have hkp:=(D.pos k hkl).1;have hlt2:ps P ops k<ps P ops i:=D.pos_of_len hn byO (by rw[<-q6];exact hlt);have hcc:c'=c:=by
   obtain⟨d,hd⟩:∃d,ps P ops i=ps P ops k+1+d:=⟨ps P ops i-(ps P ops k+1),byO⟩;have:=(D.level hn (ps P ops k+1) d byO (fun j hj hkj hpj=>by have:=later j hj hkj byO;omega)).2.1 id (Heap.get_lt a5);rw[<-hd,hc,a5]at this;simpa using this.symm
  subst hcc;exact⟨arr,ty,fr,a3,byO,a6,fun j v hv=>by rw[a2,Nat.zero_add];exact a7 j v hv⟩
theorem JD.light(D:DC P callA base lo nt ops Ts Hs φ0)(hn:(ord P ops).length=ops.length)(J:JD ds P base lo nt ops Ts Hs φ0 w0 A a w p ψ Φ){i:Nat}{o:Oper}(ho:ops[i]?=some o)(hk:kd P ops i=0\/kd P ops i=1)(hpre:∀j ∈ bf ops i,A j)(hnA:¬ A i)
  (hw:bR ops (Ts (ps P ops i)) o=true) {K:Act->World->Prop} (hK:∀a',JD ds P base lo nt ops Ts Hs φ0 w0 (fun j=>A j\/j=i) a' w p ψ Φ->K a' w) {Q:Exit->Act->World->Prop}:o.wp P a w K Q:=by
 have hi:i<ops.length:=(List.getElem?_eq_some_iff.1 ho).1;have hk':=hk;rw[D.kd_at ho]at hk';obtain⟨l,xs,r1,r2⟩:=qb hk';obtain⟨v,h1,h2⟩:=D.step i o ho;rcases h2 with ⟨_,hs⟩|⟨hw',_,_⟩
 ·unfold mO at hs
  rw[r1]at hs;simp only[aa₀,ad₀]at hs;obtain⟨v',hl,rfl,_⟩:=hs;have hρ:=J.evalOpd D ho hpre hnA;rw[r1]at hρ;have r0:bL P o.op=some (.l l,xs):=by
   unfold resolve at r1;cases h0:bL P o.op with
   | none=>rw[h0]at r1;simp at r1
   | some q=>rw[h0]at r1;simp at r1;rw[r1]
  have run:∃cv,(execOp a.eval o).run P w=.ok (.value cv) w/\VRel Φ v' cv:=by
   cases hrd:eu l with
   | false=>
    rw[ot hrd _ _ []]at hl;exact nO r0 hρ (H:=[]) (fun i c p hc=>by simp[Heap.get]at hc) hl
   | true=>
    have hk1:kd P ops i=1:=by rw[D.kd_at ho];exact r2.2 hrd
    have hxs:∃x r,xs=x::r:=by
     cases xs with
     | nil=>cases l<;>simp[eu]at hrd<;>simp[aJ]at hl
     | cons x r=>exact⟨x,r,rfl⟩
    obtain⟨x,r,rfl⟩:=hxs;have hfo:cU P ops i=some x:=by simp[cU,ho,r1]
    cases hb:ag (az (Ts (ps P ops i)) x)with
    | none=>
     have:=se hrd _ _ [] hl (fun y id hy hyb=>by simp at hy;subst hy;rw[hb]at hyb;simp at hyb);exact nO r0 hρ (H:=[]) (fun i c p hc=>by simp[Heap.get]at hc) this
    | some id=>
     let H1:Heap:=List.replicate id none++[match (Hs (ps P ops i)).get id with|some c=>some c|none=>none]
     have hget:H1.get id=(Hs (ps P ops i)).get id:=by
      have:=Heap.get_append_right (H:=List.replicate id none) (x:=match (Hs (ps P ops i)).get id with|some c=>some c|none=>none);rw[List.length_replicate]at this;rw[this];cases (Hs (ps P ops i)).get id<;>rfl
     have hne:∀k c,H1.get k=some c->k=id:=by
      intro k c hkc;have hklt:=Heap.get_lt hkc;simp[H1]at hklt;refine Decidable.byContradiction fun hkn=>?_;have:H1.get k=Heap.get (List.replicate id none) k:=Heap.get_append_left (by simp;omega);rw[this]at hkc;unfold Heap.get at hkc;rw[List.getElem?_replicate]at hkc;split at hkc
      ·rename_i e;split at e<;>simp at e
      ·simp at hkc
     have hl2:=se hrd _ _ H1 hl (fun y id' hy hyb=>by simp at hy;subst hy;rw[hb]at hyb;cases hyb;exact hget.symm);refine nO r0 hρ (H:=H1) (fun k c q hkc hkq=>?_) hl2;obtain rfl:=hne k c hkc;rw[hget]at hkc;exact J.reader_block D hn ho hk1 hpre hnA hfo hb hkc hkq
  obtain⟨cv,g1,g2⟩:=run;unfold Oper.wp;rw[g1];refine hK _ ?_;obtain⟨t1,t2,t3⟩:=J.put D hn ho hnA (Map.le_refl Φ) h1 g2;have nk:∀j,(kd P ops j=3\/kd P ops j=2)->((A j\/j=i)↔A j):=by
   intro j hj;constructor
   ·rintro(h|rfl)
    ·exact h
    ·rcases hk with h|h<;>rcases hj with hj|hj<;>omega
   ·exact .inl
  exact⟨J.down' hpre,J.ple,fun j hj hkj=>by rw[nk j (.inl hkj)];exact J.mov j hj hkj,fun j hj hkj hpj=>.inl (J.alc j hj hkj hpj),J.rel,J.le,J.plc,
   fun id q hq=>(J.dom id q hq).imp _root_.id (fun⟨k,ok,q1,q2,q3,q4⟩=>⟨k,ok,q1,q2,.inl q3,q4⟩),
   fun k ok q1 q2 q3 q4 q5=>J.al k ok q1 q2 ((nk k (.inr q2)).1 q3) q4 q5,t1,t2,t3,J.le0,J.size,J.keep,J.fresh,J.os,J.out⟩
 ·rw[hw]at hw';simp at hw'
end
section
variable {ds:List Deferred}{P:Program}{callA:dm}{base lo nt:Nat}{ops:List Oper}{Ts:Nat->Raw}{Hs:Nat->Heap}{φ0:Map}{w0:World}{A:Nat->Prop}{a:Act}{w:World}{p:Nat}{ψ Φ:Map}
theorem JD.idle(D:DC P callA base lo nt ops Ts Hs φ0)(hn:(ord P ops).length=ops.length)(J:JD ds P base lo nt ops Ts Hs φ0 w0 A a w p ψ Φ){i:Nat}{o:Oper}(ho:ops[i]?=some o)(hk:kd P ops i≠3)(hpre:∀j ∈ bf ops i,A j)(hnA:¬ A i)
  (hw:bR ops (Ts (ps P ops i)) o=false):JD ds P base lo nt ops Ts Hs φ0 w0 (fun j=>A j\/j=i) (a.put o.dst undef) w p ψ Φ:=by
 obtain⟨v,h1,h2⟩:=D.step i o ho;rcases h2 with ⟨hw',_⟩|⟨_,rfl,hH⟩
 ·simp_all
 ·obtain⟨t1,t2,t3⟩:=J.put D hn ho hnA (Map.le_refl Φ) h1 gI
  have nk:∀j,kd P ops j=3->((A j\/j=i)↔A j):=by
   grind
  refine⟨J.down' hpre,J.ple,fun j hj hkj=>by rw[nk j hkj];exact J.mov j hj hkj,fun j hj hkj hpj=>.inl (J.alc j hj hkj hpj),J.rel,J.le,J.plc,
   fun id q hq=>(J.dom id q hq).imp _root_.id (fun⟨k,ok,q1,q2,q3,q4⟩=>⟨k,ok,q1,q2,.inl q3,q4⟩),fun k ok q1 q2 q3 q4 q5=>?_,t1,t2,t3,J.le0,J.size,J.keep,J.fresh,J.os,J.out⟩
  rcases q3 with q3|rfl
  ·exact J.al k ok q1 q2 q3 q4 q5
  simp_all
theorem JD.make(D:DC P callA base lo nt ops Ts Hs φ0)(hn:(ord P ops).length=ops.length)(J:JD ds P base lo nt ops Ts Hs φ0 w0 A a w p ψ Φ){i:Nat}{o:Oper}(ho:ops[i]?=some o)(hk:kd P ops i=2)(hpre:∀j ∈ bf ops i,A j)(hnA:¬ A i)
  (hw:bR ops (Ts (ps P ops i)) o=true) {K:Act->World->Prop} (hK:∀a' w' Φ',JD ds P base lo nt ops Ts Hs φ0 w0 (fun j=>A j\/j=i) a' w' p ψ Φ'->K a' w') {Q:Exit->Act->World->Prop}:o.wp P a w K Q:=by
 have hi:i<ops.length:=(List.getElem?_eq_some_iff.1 ho).1;have hpi:=(D.pos i hi).1;have hpm:p<=ps P ops i:=Nat.le_of_not_lt fun h=>hnA (J.alc i hi hk h);obtain⟨v,hh,xs,c,r0,r1,r2,hs,hHs,hTs⟩:=D.made ho hk hw;have hρ:=J.evalOpd D ho hpre hnA;rw[r1]at hρ;obtain⟨arr,ty,fz,c',cv,dn,e1,e2,e3,e4,e5,e6,_⟩:=Bh (P:=P) (w:=w) r0 r2 hρ hs;have hcc:c'=c:=by rw[hHs]at e2;simpa using e2.symm
 subst hcc
 let N:=(Hs (ps P ops i)).length
 let q:Place:=⟨w.heap.size,0,arr.size⟩
 have hnone:∀q',Φ N≠some q':=by
  intro q' hq';rcases J.dom N q' hq' with h|⟨k,ok,q1,q2,q3,q4,q5,q6⟩
  ·have:=J.rel.dom N q' h
   have:=D.len_le hn hpm byO;omega
  ·have hki:i≠k:=fun e=>hnA (e▸q3)
   exact D.made_ne hn ho hk hw q1 q2 q5 hki q6
 have hle:Φ.le (Φ.set N q):=Map.le_set hnone q;have hnew:Φ.set N q N=some q:=by simp[Map.set]
 obtain⟨t1,t2,t3⟩:=J.put D hn ho hnA hle hTs (e6 (Φ.set N q) hnew);have heap:(({ w with drawn:=dn }:World).alloc (.cells arr ty fz)).heap=w.heap.push (.cells arr ty fz):=rfl;have hold:∀b,b<w.heap.size->(({ w with drawn:=dn }:World).alloc (.cells arr ty fz)).heap[b]?=w.heap[b]?:=by
  intro b hb;rw[heap,Array.getElem?_push];split
  ·omega
  ·rfl
 have hsz:w.heap.size<=(({ w with drawn:=dn }:World).alloc (.cells arr ty fz)).heap.size:=by rw[heap];simp
 unfold Oper.wp;rw[e1];refine hK _ _ (Φ.set N q) ?_;have nk:∀j,kd P ops j=3->((A j\/j=i)↔A j):=by
  intro j hj;constructor
  ·rintro(h|rfl)
   ·exact h
   ·omega
  ·exact .inl
 refine⟨J.down' hpre,J.ple,fun j hj hkj=>by rw[nk j hkj];exact J.mov j hj hkj,fun j hj hkj hpj=>.inl (J.alc j hj hkj hpj),J.rel.ext hsz hold,Map.le_trans J.le hle,?_,?_,?_,t1,t2,t3,Map.le_trans J.le0 hle,Nat.le_trans J.size hsz,?_,?_,J.os,J.out⟩
 ·intro id q' hq'
  by_cases hid:id=N
  ·subst hid;rw[hnew]at hq';cases hq';rw[heap];simp[q]
  ·simp[Map.set,hid]at hq';exact bc₀ (J.plc id q' hq') hsz
 ·intro id q' hq'
  by_cases hid:id=N
  ·subst hid;exact .inr ⟨i,o,ho,hk,.inr rfl,hpm,hw,rfl⟩
  ·simp[Map.set,hid]at hq'
   exact(J.dom id q' hq').imp _root_.id (fun⟨k,ok,q1,q2,q3,q4⟩=>⟨k,ok,q1,q2,.inl q3,q4⟩)
 ·intro k ok q1 q2 q3 q4 q5
  by_cases hki:k=i
  ·subst hki
   rw[ho]at q1;cases q1;refine⟨q,arr,ty,fz,hnew,rfl,by rw[heap];simp[q],rfl,⟨c',by rw[hHs];exact Heap.get_append_right,e3,fun j v hv=>?_⟩,e5,fun id q' hq' hid=>?_⟩
   ·obtain⟨u,hu,hr⟩:=e4 j v hv;exact⟨u,hu,hr.mono hle⟩
   ·simp only[Map.set]at hq'
    rw[if_neg hid]at hq';have:=J.plc id q' hq';simp[q];omega
  ·have q3':A k:=q3.resolve_right hki
   obtain⟨q',arr',ty',fr',a1,a2,a3,a4,⟨c2,a5,a6,a7⟩,a8,a9⟩:=J.al k ok q1 q2 q3' q4 q5;have hb':=J.plc _ q' a1;refine⟨q',arr',ty',fr',hle _ _ a1,a2,by rw[hold _ hb'];exact a3,a4,⟨c2,a5,a6,fun j v hv=>?_⟩,a8,fun id q2' hq2 hid=>?_⟩
   ·obtain⟨u,hu,hr⟩:=a7 j v hv;exact⟨u,hu,hr.mono hle⟩
   ·by_cases hidN:id=N
    ·subst hidN;rw[hnew]at hq2;cases hq2;simp[q];omega
    ·simp[Map.set,hidN]at hq2;exact a9 id q2' hq2 hid
 ·intro b hb hnb
  rw[hold b (bc₀ hb J.size)];exact J.keep b hb hnb
 ·intro id q' h0 hq'
  by_cases hid:id=N
  ·subst hid;rw[hnew]at hq';cases hq';exact .inl J.size
  ·simp[Map.set,hid]at hq';exact J.fresh id q' h0 hq'
theorem JD.move(D:DC P callA base lo nt ops Ts Hs φ0)(hcall:fG P base P.globals.size callA)(hbl:base<=lo)(hφ0:∀i q,φ0 i=some q->i<(Hs 0).length)(hn:(ord P ops).length=ops.length)(J:JD ds P base lo nt ops Ts Hs φ0 w0 A a w p ψ Φ){i:Nat}{o:Oper}
  (ho:ops[i]?=some o) (hk:kd P ops i=3) (hpre:∀j ∈ bf ops i,A j) (hnA:¬ A i) :
  (bR ops (Ts (ps P ops i)) o=true->∀{K:Act->World->Prop},(∀a' w' ψ' Φ',JD ds P base lo nt ops Ts Hs φ0 w0 (fun j=>A j\/j=i) a' w' (ps P ops i+1) ψ' Φ'->K a' w')->∀{Q:Exit->Act->World->Prop},o.wp P a w K Q) /\
  (bR ops (Ts (ps P ops i)) o=false->∃ψ',JD ds P base lo nt ops Ts Hs φ0 w0 (fun j=>A j\/j=i) (a.put o.dst undef) w (ps P ops i+1) ψ' Φ):=by
 have hi:i<ops.length:=(List.getElem?_eq_some_iff.1 ho).1;have hpi:=(D.pos i hi).1;have hpm:p<=ps P ops i:=Nat.le_of_not_lt fun h=>hnA ((J.mov i hi hk).2 h);have movs:∀j,j<ops.length->kd P ops j=3->j≠i->(ps P ops j<p↔ps P ops j<ps P ops i+1):=by
  intro j hj hkj hji;refine⟨fun h=>byO,fun h=>?_⟩;have hne:ps P ops j≠ps P ops i:=by
   intro e;have h1:=(D.pos j hj).2;rw[e,(D.pos i hi).2]at h1;simp at h1;exact hji h1.symm
  by_cases hord:i ∈ bf ops j\/j ∈ bf ops i
  ·rcases hord with h'|h'
   ·have:=D.bpos j hj i h';omega
   ·exact(J.mov j hj hkj).1 (hpre j h')
  ·exact absurd hkj (D.mov i j hi hj (fun e=>hji e.symm) hk hord).1
 have alcs:∀j,j<ops.length->kd P ops j=2->ps P ops j<ps P ops i+1->A j:=by
  intro j hj hkj hpj;have hji:i≠j:=fun e=>by subst e;omega
  by_cases hpp:ps P ops j<p
  ·exact J.alc j hj hkj hpp
  ·by_cases hord:i ∈ bf ops j\/j ∈ bf ops i
   ·rcases hord with h'|h'
    ·have:=D.bpos j hj i h';omega
    ·exact hpre j h'
   ·have:=(D.mov i j hi hj hji hk hord).2.1 hkj;omega
 have hlev:=J.at_level D hn hpm (Nat.le_of_lt hpi) (fun j hj hkj hpj=>by
  by_cases hji:j=i
  ·subst hji;exact Nat.le_refl _
  ·refine Decidable.byContradiction fun hc=>?_
   have:=(movs j hj hkj hji).2 byO;omega) (fun j hj hkj _ hlt=>alcs j hj hkj byO)
 have far:∀id q,Φ id=some q->id<(Hs (ps P ops i)).length\/∃k ok,ops[k]?=some ok/\kd P ops k=2/\A k/\ps P ops i+1<=ps P ops k/\bR ops (Ts (ps P ops k)) ok=true/\id=(Hs (ps P ops k)).length:=by
  intro id q hq;rcases J.dom id q hq with h|⟨k,ok,q1,q2,q3,q4,q5,q6⟩
  ·left
   have:=J.rel.dom id q h;have:=D.len_le hn hpm (Nat.le_of_lt hpi);omega
  ·have hkl:k<ops.length:=(List.getElem?_eq_some_iff.1 q1).1
   by_cases hlt:ps P ops k<ps P ops i
   ·left
    obtain⟨_,_,_,c,_,_,_,_,e1,_⟩:=D.made q1 q2 q5;have h1:(Hs (ps P ops k+1)).length=(Hs (ps P ops k)).length+1:=by rw[e1];simp
    have:=D.len_le hn (show ps P ops k+1<=ps P ops i by omega) (Nat.le_of_lt hpi);omega
   ·right
    have hne:ps P ops k≠ps P ops i:=by
     intro e;have h1:=(D.pos k hkl).2;rw[e,(D.pos i hi).2]at h1;simp at h1;subst h1;omega
    exact⟨k,ok,q1,q2,q3,byO,q5,q6⟩
 have back:∀j c q,lo<=j->(Hs (ps P ops i)).get j=some c->Φ j=some q->w0.heap.size<=q.b\/∃j c q',lo<=j/\(Hs 0).get j=some c/\φ0 j=some q'/\q'.b=q.b:=by
  intro j c q hlo hc hq;cases h0:φ0 j with
  | none=>exact J.fresh j q h0 hq
  | some q0=>
   have:=J.le0 j q0 h0;rw[hq]at this;cases this;obtain⟨d,hd⟩:=D.keeps (ps P ops i) (Nat.le_of_lt hpi) j c (hφ0 j q h0) ⟨q,h0⟩ hc;exact .inr ⟨j,d,q,hlo,hd,h0,rfl⟩
 have mov':∀j,j<ops.length->kd P ops j=3->((A j\/j=i)↔ps P ops j<ps P ops i+1):=by
  intro j hj hkj;by_cases hji:j=i
  ·subst hji;simp
  ·rw[<-movs j hj hkj hji,<-J.mov j hj hkj];simp[hji]
 obtain⟨v,hTs,hstep⟩:=D.step i o ho;constructor
 ·intro hw K hK Q
  rcases hstep with ⟨_,hs⟩|⟨hw',_,_⟩
  ·have hcl:=D.cl (ps P ops i) (Nat.le_of_lt hpi)
   have hρ:∀x ∈ (resolve P o.op).2,VRel (Φ.below (Hs (ps P ops i)).length) (az (Ts (ps P ops i)) x) (a.eval x):=by
    intro x hx;have h1:=J.evalOpd D ho hpre hnA x hx;have hop:=(D.opsOK o (List.mem_of_getElem? ho)).2 x hx;cases x with
    | tmp t=>exact(hcl.2.1 t).below h1
    | const v=>exact(mf _ (by simpa[gu,jv]using hop):VRel _ v v)
    | global g=>
     obtain⟨n,hn⟩:=hlev.glob g (by simpa[gu,jv]using hop);exact .ptr g 0 _ hn
    | func f=>exact .func f #[] #[] #[] #[] rfl rfl (fun j x y hx=>by simp at hx) (fun j x y hx=>by simp at hx)
   refine zY (raised:=bS P ops true i) hcall hbl hcl.1 hlev hρ hs fun cv φ' w' heff hv=>?_
   let Φ':Map:=fun id=>if id<(Hs (ps P ops i+1)).length then φ' id else Φ id
   have hlen:=heff.keeps.1;have hleΦ:Φ.le Φ':=by
    intro id q hq;rcases far id q hq with h|⟨k,ok,q1,q2,q3,q4,q5,q6⟩
    ·have h2:Φ.below (Hs (ps P ops i)).length id=some q:=by unfold Map.below;rw[if_pos h];exact hq
     simp only[Φ'];rw[if_pos byO];exact heff.le id q h2
    ·have hkl:k<ops.length:=(List.getElem?_eq_some_iff.1 q1).1
     have:=D.len_le hn q4 (Nat.le_of_lt (D.pos k hkl).1);simp only[Φ'];rw[if_neg byO];exact hq
   have hφΦ:φ'.le Φ':=by
    intro id q hq;have:=heff.rel.dom id q hq;simp only[Φ'];rw[if_pos this];exact hq
   obtain⟨t1,t2,t3⟩:=J.put D hn ho hnA hleΦ hTs (hv.mono hφΦ);refine hK _ w' φ' Φ' ⟨J.down' hpre,byO,mov',fun j hj hkj hpj=>.inl (alcs j hj hkj hpj),heff.rel,hφΦ,?_,?_,?_,t1,t2,t3,Map.le_trans J.le0 hleΦ,Nat.le_trans J.size heff.size,?_,?_,heff.os.trans J.os,heff.out.trans J.out⟩
   ·intro id q hq
    simp only[Φ']at hq;split at hq
    ·exact heff.rel.plc id q hq
    ·exact bc₀ (J.plc id q hq) heff.size
   ·intro id q hq
    simp only[Φ']at hq;split at hq
    ·exact .inl hq
    ·rename_i hge
     rcases far id q hq with h|⟨k,ok,q1,q2,q3,q4,q5,q6⟩
     ·omega
     ·exact .inr ⟨k,ok,q1,q2,.inl q3,q4,q5,q6⟩
   ·intro k ok q1 q2 q3 q4 q5
    have hki:k≠i:=fun e=>by subst e;omega
    have q3':A k:=q3.resolve_right hki;obtain⟨q',arr',ty',fr',a1,a2,a3,a4,⟨c2,a5,a6,a7⟩,a8,a9⟩:=J.al k ok q1 q2 q3' byO q5;have hkl:k<ops.length:=(List.getElem?_eq_some_iff.1 q1).1;have hlenk:=D.len_le hn q4 (Nat.le_of_lt (D.pos k hkl).1);have hb':=J.plc _ q' a1;have hsame:w'.heap[q'.b]?=w.heap[q'.b]?:=by
     refine heff.keep q'.b hb' fun j c p' hlo hc hp'=>?_;have hjlt:=Heap.get_lt hc;exact a9 j p' (Map.below_le _ _ j p' hp') byO
    refine⟨q',arr',ty',fr',hleΦ _ _ a1,a2,by rw[hsame];exact a3,a4,⟨c2,a5,a6,fun j v hv=>?_⟩,a8,fun id q2' hq2 hid=>?_⟩
    ·obtain⟨u,hu,hr⟩:=a7 j v hv;exact⟨u,hu,hr.mono hleΦ⟩
    ·simp only[Φ']at hq2
     split at hq2
     ·cases hb:Φ.below (Hs (ps P ops i)).length id with
      | some q3'=>
       have:=heff.le id q3' hb;rw[hq2]at this;cases this;exact a9 id q2' (Map.below_le _ _ id q2' hb) hid
      | none=>
       rcases heff.fresh id q2' hb hq2 with h|⟨j,c,q5',h1,h2,h3,h4⟩
       ·omega
       ·rw[<-h4]
        have hjlt:=Heap.get_lt h2;exact a9 j q5' (Map.below_le _ _ j q5' h3) byO
     ·exact a9 id q2' hq2 hid
   ·intro b hb hnb
    rw[heff.keep b (bc₀ hb J.size) ?_,J.keep b hb hnb];intro j c q hlo hc hq;rcases back j c q hlo hc (Map.below_le _ _ j q hq)with h|⟨j',c',q',h1,h2,h3,h4⟩
    ·omega
    ·rw[<-h4];exact hnb j' c' q' h1 h2 h3
   ·intro id q h0 hq
    simp only[Φ']at hq;split at hq
    ·cases hb:Φ.below (Hs (ps P ops i)).length id with
     | some q3'=>
      have:=heff.le id q3' hb;rw[hq]at this;cases this;exact J.fresh id q h0 (Map.below_le _ _ id q hb)
     | none=>
      rcases heff.fresh id q hb hq with h|⟨j,c,q5',h1,h2,h3,h4⟩
      ·exact .inl (Nat.le_trans J.size h)
      ·rw[<-h4];exact back j c q5' h1 h2 (Map.below_le _ _ j q5' h3)
    ·exact J.fresh id q h0 hq
  ·rw[hw]at hw';simp at hw'
 ·intro hw
  rcases hstep with ⟨hw',_⟩|⟨_,rfl,hH⟩
  ·rw[hw]at hw';simp at hw'
  ·obtain⟨t1,t2,t3⟩:=J.put D hn ho hnA (Map.le_refl Φ) hTs gI
   refine⟨Φ.below (Hs (ps P ops i)).length,J.down' hpre,byO,mov',fun j hj hkj hpj=>.inl (alcs j hj hkj hpj),by rw[hH];exact hlev,Map.below_le _ _,J.plc,?_,?_,t1,t2,t3,J.le0,J.size,J.keep,J.fresh,J.os,J.out⟩
   ·intro id q hq
    rcases far id q hq with h|⟨k,ok,q1,q2,q3,q4,q5,q6⟩
    ·left;unfold Map.below;rw[if_pos h];exact hq
    ·exact .inr ⟨k,ok,q1,q2,.inl q3,q4,q5,q6⟩
   ·intro k ok q1 q2 q3 q4 q5
    have hki:k≠i:=fun e=>by subst e;omega
    exact J.al k ok q1 q2 (q3.resolve_right hki) byO q5
end
section
variable {ds:List Deferred}{P:Program}{callA:dm}{base lo nt:Nat}{ops:List Oper}
theorem qZ:∀{l:List Nat} {t:Nat},t ∈ l->∃j,idxOf l t=some j
 | x::r,t,h=>by
  unfold idxOf;split
  ·simp_all
  ·have:t ∈ r:=by
    grind
   obtain⟨j,hj⟩:=qZ this
   simp_all
theorem w9{raised:Nat->Bool}{l:List Nat}{Ts:Nat->Raw}{Hs:Nat->Heap}
  (hst:∀m i,l[m]?=some i->∃o,ops[i]?=some o/\bY P callA lo ops (raised i) o (Ts m) (Hs m)=some (Ts (m+1),Hs (m+1))) {t:Nat}:∀k m,m+k<=l.length->(∀x i o,m<=x->x<m+k->l[x]?=some i->ops[i]?=some o->o.dst≠some t)->Ts (m+k) t=Ts m t:=by
 intro k
 induction k with
 | zero=>intro m _ _;rfl
 | succ k ih=>
  intro m hm hw;obtain⟨o,ho,hs⟩:=hst (m+k) _ (bb₀ byO);obtain⟨v,e,_⟩:=kv hs;rw[<-Nat.add_assoc,e];have hne:=hw (m+k) _ o byO byO (bb₀ byO) ho;have:eU (Ts (m+k)) o.dst v t=Ts (m+k) t:=by
   cases hd:o.dst with
   | none=>rfl
   | some d=>
    simp only[eU];split
    ·rename_i e;subst e;exact absurd hd hne
    ·rfl
  rw[this];exact ih m byO (fun x i o h1 h2=>hw x i o h1 byO)
theorem kb(h:fJ P ops=true):(ord P ops).length=ops.length/\(∀i,i<ops.length->i ∈ ord P ops)/\Nd (ord P ops)/\(∀i ∈ ord P ops,i<ops.length) /\
  (∀i o,ops[i]?=some o->∀j ∈ bf ops i,∃e ∈ o.after.toList,Region.binds .any e=true/\(e.on=j\/j ∈ bf ops e.on)) /\
  (∀i o,ops[i]?=some o->∀e ∈ o.after.toList,Region.binds .any e=true->e.on<i) /\
  (∀i,i<ops.length->∀j ∈ bf ops i,ps P ops j<ps P ops i) /\
  (∀i o j want,ops[i]?=some o->o.guard=some (j,want)->j ∈ bf ops i) /\
  (∀i j o q,i≠j->ops[i]?=some o->ops[j]?=some q->¬ (i ∈ bf ops j\/j ∈ bf ops i)->∀d,o.dst=some d->q.dst≠some d/\d ∉ pT P ops q) /\
  (∀i j,i<ops.length->j<ops.length->i≠j->kd P ops i=3->¬ (i ∈ bf ops j\/j ∈ bf ops i)->kd P ops j≠3/\(kd P ops j=2->ps P ops i<ps P ops j) /\
   (kd P ops j=1->ps P ops j<ps P ops i/\((qy (iC P ops) (beforeL ops) i=true/\∃o,ops[i]?=some o/\gU P o=true)\/(i,j) ∈ fR P ops true))) /\
  (∀q ∈ fR P ops true,stays ops (beforeL ops) q.1 (cU P ops q.1)=true/\stays ops (beforeL ops) q.2 (cU P ops q.2)=true):=by
 unfold fJ at h;simp only[ac₀]at h;obtain⟨⟨⟨⟨⟨⟨⟨⟨⟨⟨h1,h2⟩,h3⟩,h4⟩,h5⟩,h6⟩,h7⟩,h8⟩,h9⟩,h10⟩,h11⟩:=h;have ordd:∀i j,ordered (beforeL ops) i j=true↔(i ∈ bf ops j\/j ∈ bf ops i):=by
  intro i j;simp[ordered,bf,bOf]
 refine⟨by simpa[ord]using h1,fun i hi=>?_,qj h3,fun i hi=>?_,fun i o ho j hj=>?_,fun i o ho e he hb=>?_,fun i hi j hj=>?_,fun i o j want ho hg=>?_,fun i j o q hij ho hq hord d hd=>?_,fun i j hi hj hij hk hord=>?_,fun q hq=>?_⟩
 ·have:=List.all_eq_true.1 h2 i (by simpa using hi);simpa[ord]using this
 ·have:=List.all_eq_true.1 h4 i hi;simpa using this
 ·have hi:i<ops.length:=(List.getElem?_eq_some_iff.1 ho).1
  have:=List.all_eq_true.1 (List.all_eq_true.1 h5 i (by simpa using hi)) j hj;rw[ho]at this;simp only[Option.map_some,aq₀,List.any_eq_true,ac₀,ar₀,beq_iff_eq,List.contains_eq_mem,af₀]at this;obtain⟨e,he,hb,hor⟩:=this;exact⟨e,he,hb,hor⟩
 ·have hi:i<ops.length:=(List.getElem?_eq_some_iff.1 ho).1
  have:=List.all_eq_true.1 h6 i (by simpa using hi);rw[ho]at this;simp only[Option.map_some,aq₀,List.all_eq_true,ar₀,Bool.not_eq_true',af₀]at this;exact(this e he).resolve_left (by simp[hb])
 ·have:=List.all_eq_true.1 (List.all_eq_true.1 h7 i (by simpa using hi)) j hj
  simpa[ps,ord]using this
 ·have hi:i<ops.length:=(List.getElem?_eq_some_iff.1 ho).1
  have:=List.all_eq_true.1 h8 i (by simpa using hi);rw[ho]at this;simp only[ao₀,hg,List.contains_eq_mem,af₀]at this;exact this
 ·have hi:i<ops.length:=(List.getElem?_eq_some_iff.1 ho).1
  have hjl:j<ops.length:=(List.getElem?_eq_some_iff.1 hq).1;have:=List.all_eq_true.1 (List.all_eq_true.1 h9 i (by simpa using hi)) j (by simpa using hjl);rw[<-ordd]at hord;simp only[ho,hq,hd,ar₀,beq_iff_eq,hij,hord,false_or,ac₀,Bool.not_eq_true',beq_eq_false_iff_ne,ne_eq,List.contains_eq_mem,ai₀]at this;simpa using this
 ·have:=List.all_eq_true.1 h10 i (by simpa using hi)
  have hk':((iC P ops)[i]?).getD 0=3:=hk;simp only[hk',bne_self_eq_false,Bool.false_or,List.all_eq_true]at this;have:=this j (by simpa using hj);rw[<-ordd]at hord;simp only[ar₀,beq_iff_eq,hij,hord,false_or]at this;have hkj:((iC P ops)[j]?).getD 0=kd P ops j:=rfl;rw[hkj]at this;refine⟨fun e=>by rw[e]at this;simp at this,fun e=>by rw[e]at this;simpa[ps,ord]using this,fun e=>?_⟩;rw[e]at this;simp only[ac₀,af₀,ar₀,List.contains_eq_mem]at this;have this:=this.resolve_left (by simp);refine⟨this.1,this.2.imp (fun⟨x,y⟩=>⟨x,?_⟩) _root_.id⟩;cases ho:ops[i]? with
  | none=>rw[ho]at y;simp at y
  | some o=>rw[ho]at y;exact⟨o,rfl,by simpa using y⟩
 ·have:=List.all_eq_true.1 h11 q hq
  simpa using this
theorem tG{raised:Nat->Bool}{Ts:Nat->Raw}{Hs:Nat->Heap}(hn:(ord P ops).length=ops.length)
  (hst:∀m i,(ord P ops)[m]?=some i->∃o,ops[i]?=some o/\bY P callA lo ops (raised i) o (Ts m) (Hs m)=some (Ts (m+1),Hs (m+1)))
  (hinv:∀m i,(ord P ops)[m]?=some i->i<ops.length/\ps P ops i=m) (hb:∀i,i<ops.length->∀j ∈ bf ops i,ps P ops j<ps P ops i) {i:Nat} (hi:i<ops.length) (hpi:ps P ops i<ops.length) {x:Operand}
  (h:stays ops (beforeL ops) i (some x)=true):az (Ts ops.length) x=az (Ts (ps P ops i)) x:=by
 cases x with
 | tmp t=>
  simp only[stays,List.all_eq_true,List.mem_range,ar₀,Bool.not_eq_true',List.contains_eq_mem,af₀]at h;have:=w9 (t:=t) hst (ops.length-ps P ops i) (ps P ops i) byO (fun y j o h1 h2 h3 h4 h5=>by
   have hj:=hinv y j h3;rcases h j hj.1 with h6|h6
   ·simp[h4,h5]at h6
   ·have:=hb i hi j h6;omega)
  rw[show ps P ops i+(ops.length-ps P ops i)=ops.length by omega]at this;exact this
 | const v=>rfl
 | global g=>simp[stays]at h
 | func f=>simp[stays]at h
theorem vU(hcf:dJ callA)(hcall:fG P base P.globals.size callA):∀(lo:Nat) (Q:Exit->Act->World->Prop) (nt:Nat) (ops:List Oper) (ds:List Deferred) (φ:Map) (H:Heap) (w:World) (T:Raw) (a:Act),base<=lo->lo<=H.length->opsOK P nt ops=true->fJ P ops=true ->
  Tmps ds φ nt T a->HRel φ base P.globals.size H w->∀T' H',bT P callA lo ops (bS P ops true) (cz P ops true) T H=some (T',H')->mV P ops true T' ->
  (∀a' w' φ',Tmps ds φ' nt T' a'->Eff φ base P.globals.size lo H w φ' H' w'->Q .normal a' w')->wpAny P .any ops.toArray Q ops.length (Array.replicate ops.length false) a { w with drawn:=w.drawn+1 }:=by
 intro lo Q nt ops ds φ H w T a hbl hlo hops hdraw hT hH T' H' hrun hdist hK;obtain⟨s1,s2,s3,s4,s5,s6,s7,s8,s9,s10,s11⟩:=kb hdraw;obtain⟨Ts,Hs,e1,e2,e3,e4,hst⟩:=mN _ T H T' H' hrun;have hord:cz P ops true=ord P ops:=rfl;rw[hord]at e3 e4 hst;rw[s1]at e3 e4;subst e1 e2;have hpos:∀i,i<ops.length->ps P ops i<ops.length/\(ord P ops)[ps P ops i]?=some i:=by
  intro i hi;obtain⟨j,hj⟩:=qZ (s2 i hi);have hg:=cu hj;have:ps P ops i=j:=by simp[ps,posOf,hj]
  rw[this];exact⟨by have:=(List.getElem?_eq_some_iff.1 hg).1;omega,hg⟩
 have hinv:∀m i,(ord P ops)[m]?=some i->i<ops.length/\ps P ops i=m:=by
  intro m i hmi;have hi:=s4 i (List.mem_of_getElem? hmi);exact⟨hi,s3 _ m i (hpos i hi).2 hmi⟩
 have hsh:=MU hcall hbl hops hst hlo hT hH;have hcl:∀m,m<=ops.length->lo<=(Hs m).length/\(∀t,ClV (Hs m).length (Ts m t))/\∀i c v,(Hs m).get i=some c->v ∈ c->ClV (Hs m).length v:=by
  intro m hml;obtain⟨φ',w',a',q1,q2,q3,q4,q5⟩:=hsh m byO;exact⟨q3,BW q1 q2⟩
 have hstep:∀i o,ops[i]?=some o->∃v,Ts (ps P ops i+1)=eU (Ts (ps P ops i)) o.dst v /\
   ((bR ops (Ts (ps P ops i)) o=true/\mO P callA lo (bS P ops true i) o (Ts (ps P ops i)) (Hs (ps P ops i))=some (v,Hs (ps P ops i+1))) \/
    (bR ops (Ts (ps P ops i)) o=false/\v=undef/\Hs (ps P ops i+1)=Hs (ps P ops i))):=by
  intro i o ho;have hi:i<ops.length:=(List.getElem?_eq_some_iff.1 ho).1;obtain⟨o',ho',hs⟩:=hst (ps P ops i) i (hpos i hi).2;rw[ho]at ho';cases ho';exact kv hs
 have D:DC P callA base lo nt ops Ts Hs φ:=by
  refine⟨hpos,hinv,hstep,hcl,?_,?_,fM hops,s5,s7,s8,s9,?_⟩
  ·intro m hml id c hid hq hc
   obtain⟨φ',w',a',q1,q2,q3,q4,q5⟩:=hsh m byO;obtain⟨q,hq⟩:=hq;exact q5.2 id c q hq hc
  ·intro i o ho
   obtain⟨v,_,hs⟩:=hstep i o ho;have hi:i<ops.length:=(List.getElem?_eq_some_iff.1 ho).1;rcases hs with ⟨_,hs⟩|⟨_,_,hs⟩
   ·unfold mO at hs
    cases hres:resolve P o.op with
    | mk rop xs=>
    rw[hres]at hs;cases rop with
    | l l=>simp only[aa₀,ad₀]at hs;obtain⟨_,_,_,e⟩:=hs;rw[<-e];exact Same.refl _ _
    | h h=>exact sV hcf (hcl _ (Nat.le_of_lt (hpos i hi).1)).1 hs
   ·rw[hs];exact Same.refl _ _
  ·intro i j hi hj hij hk hno
   obtain⟨m1,m2,m3⟩:=s10 i j hi hj hij hk hno;refine⟨m1,m2,fun hkj=>?_⟩;obtain⟨m4,m5⟩:=m3 hkj;refine⟨m4,fun id hid hx=>?_⟩;have ho:ops[i]?=some ops[i]:=bb₀ hi;obtain⟨v,_,hs⟩:=hstep i _ ho;rcases hs with ⟨_,hs⟩|⟨_,_,hs⟩
   ·unfold mO at hs
    rcases m5 with ⟨hr,o',ho',hc⟩|hpair
    ·rw[ho]at ho';cases ho'
     unfold gU at hc;cases hres:resolve P ops[i].op with
     | mk rop xs=>
     rw[hres]at hc hs;cases rop with
     | l l=>simp at hc
     | h h=>
      cases h<;>simp at hc;simp only[cD]at hs;have hrf:bS P ops true i=true:=by simp[bS,hr]
      rw[hrf]at hs;cases hxs:xs.map (az (Ts (ps P ops i)))with
      | nil=>rw[hxs]at hs;simp[Abs.hsem]at hs
      | cons f r=>
       rw[hxs]at hs;cases f<;>try (simp[Abs.hsem]at hs;done)
       rename_i fn first cap
       cases fn<;>try (simp[Abs.hsem]at hs;done)
       simp only[Abs.hsem,if_true]at hs;exact(hcf _ _ _ _ _ _ (Nat.le_refl _) hs).2 id hid hid
    ·
     obtain⟨x,y,hfx,hfy,hd⟩:=hdist (i,j) hpair;simp only at hfx hfy;have st:=s11 (i,j) hpair;simp only[hfx,hfy]at st;rw[<-e3]at hd;rw[tG s1 hst hinv s7 hi (hpos i hi).1 st.1,tG s1 hst hinv s7 hj (hpos j hj).1 st.2,hx y hfy]at hd;have hnc:gU P ops[i]=false:=by
      simp only[fR,if_true,List.mem_flatMap,List.mem_range]at hpair;obtain⟨i',hi',hp⟩:=hpair;split at hp
      ·rename_i hcond
       simp only[List.mem_map,ad₀]at hp;obtain⟨_,_,rfl,_⟩:=hp;simp only[ac₀,Bool.not_eq_true']at hcond;simpa[ho]using hcond.2
      ·simp at hp
     cases hres:resolve P ops[i].op with
     | mk rop xs=>
     rw[hres]at hs;cases rop with
     | l l=>simp only[aa₀,ad₀]at hs;obtain⟨_,_,_,e⟩:=hs;rw[<-e]
     | h h=>
      have hnc':h.isCall=false:=by
       unfold gU at hnc;rw[hres]at hnc;cases h<;>simp at hnc<;>first|rfl|exact(BB hres).elim
      have hsr:cD (bS P ops true i) h=h:=by cases h<;>first|rfl|simp[HOp.isCall]at hnc'
      simp only[hsr]at hs;refine(oh hnc' hs).2.1 id hid (fun z hz=>?_);have hxz:z=az (Ts (ps P ops i)) x:=by
       simp only[cU,ho,hres]at hfx;cases xs with
       | nil=>simp at hfx
       | cons x' r=>simp at hfx hz;rw[<-hz,hfx]
      rw[hxz];rcases hd with hd|hd
      ·rw[hd];simp
      ·exact hd
   ·rw[hs]
 have hsz0:ops.toArray.size=ops.length:=by simp
 have key:∀(fuel:Nat) (listed:Array Bool) (a1:Act) (w1:World),listed.size=ops.length->((List.range ops.length).filter fun i=>!listed.getD i true).length<=fuel ->
   (∃p ψ Φ,JD ds P base lo nt ops Ts Hs φ { w with drawn:=w.drawn+1 } (fun j=>listed.getD j false=true) a1 w1 p ψ Φ)->wpAny P .any ops.toArray Q fuel listed a1 w1:=by
  intro fuel;have done:∀(listed:Array Bool),listed.size=ops.length->Region.ready .any ops.toArray listed=[]->∀i,i<ops.length->listed.getD i false=true:=by
   intro listed hls hrd i
   induction i using Nat.strongRecOn with
   | _ i ih=>
    intro hi;refine Decidable.byContradiction fun hne=>?_;have ho:ops[i]?=some ops[i]:=bb₀ hi;have hmem:i ∈ Region.ready .any ops.toArray listed:=by
     unfold Region.ready;rw[hsz0];refine List.mem_filter.2 ⟨by simpa using hi,?_⟩;have hi2:i<listed.size:=byO;have hf:listed.getD i true=false:=by
      simp only[at₀,Array.getElem?_eq_getElem hi2,aq₀]at hne ⊢;simpa using hne
     simp only[hf,Bool.not_false,aj₀,ho,Option.map_some,aq₀,Bool.true_and,Array.all_eq_true_iff_forall_mem,ar₀,Bool.not_eq_true'];intro e he;cases hb:Region.binds .any e with
     | false=>exact .inl rfl
     | true=>
      have hlt:=s6 i _ ho e (by simpa using he) hb;exact .inr (ih e.on hlt byO)
    rw[hrd]at hmem;simp at hmem
  have fin:∀(listed:Array Bool) (a1:Act) (w1:World),listed.size=ops.length->(∃p ψ Φ,JD ds P base lo nt ops Ts Hs φ { w with drawn:=w.drawn+1 } (fun j=>listed.getD j false=true) a1 w1 p ψ Φ)->Region.ready .any ops.toArray listed=[]->Q .normal a1 w1:=by
   intro listed a1 w1 hls ⟨p,ψ,Φ,J⟩ hrd;have hall:=done listed hls hrd;have hnomov:∀i,i<ops.length->kd P ops i=3->p<=ps P ops i->ops.length<=ps P ops i:=by
    intro i hi hki hpi;have:=(J.mov i hi hki).1 (hall i hi);omega
   have hrel:=J.at_level D s1 J.ple (Nat.le_refl _) hnomov (fun i hi _ _ _=>hall i hi);rw[<-e3,<-e4]at hK;refine hK a1 w1 (Φ.below (Hs ops.length).length) ⟨J.tsz,fun t=>?_,J.tdef⟩ ?_
   ·refine((hcl ops.length (Nat.le_refl _)).2.1 t).below (J.tmp t ops.length (Nat.le_refl _) fun j o hj _=>?_)
    have hjl:j<ops.length:=(List.getElem?_eq_some_iff.1 hj).1;exact⟨fun _=>(hpos j hjl).1,fun _=>hall j hjl⟩
   ·have hlen:=D.len_le s1 (Nat.zero_le ops.length) (Nat.le_refl _)
    refine Eff.of_drawn (n:=w.drawn+1) ⟨fun i q hq=>?_,hrel,⟨hlen,fun i c q hq hc=>?_⟩,J.size,J.keep,fun i q h0 hq=>J.fresh i q h0 (Map.below_le _ _ i q hq),J.os,J.out⟩
    ·have:=hH.dom i q hq
     unfold Map.below;rw[if_pos byO];exact J.le0 i q hq
    ·exact D.keeps ops.length (Nat.le_refl _) i c (hH.dom i q hq) ⟨q,hq⟩ hc
  induction fuel with
  | zero=>
   intro listed a1 w1 hls hcnt hJ;have hnil:((List.range ops.length).filter fun i=>!listed.getD i true)=[]:=List.eq_nil_of_length_eq_zero byO;have hrd:Region.ready .any ops.toArray listed=[]:=by
    unfold Region.ready;rw[hsz0,List.filter_eq_nil_iff];intro i hi hc;rw[List.filter_eq_nil_iff]at hnil;have:=hnil i hi;simp only[ac₀]at hc;exact this hc.1
   exact⟨hrd,fin listed a1 w1 hls hJ hrd⟩
  | succ fuel ih=>
   intro listed a1 w1 hls hcnt hJ;refine⟨fun hrd=>fin listed a1 w1 hls hJ hrd,fun i hir=>?_⟩;obtain⟨p,ψ,Φ,J⟩:=hJ;unfold Region.ready at hir;rw[hsz0]at hir;obtain⟨hi0,hir⟩:=List.mem_filter.1 hir;have hi:i<ops.length:=by simpa using hi0
   have ho:ops[i]?=some ops[i]:=bb₀ hi;simp only[ac₀,Bool.not_eq_true',aj₀,ho,Option.map_some,aq₀,Array.all_eq_true_iff_forall_mem,ar₀]at hir;obtain⟨hun,hedges⟩:=hir;have hi2:i<listed.size:=byO;have hnA:¬ listed.getD i false=true:=by
    simp only[at₀,Array.getElem?_eq_getElem hi2,aq₀]at hun ⊢;simp[hun]
   have hpre:∀j ∈ bf ops i,listed.getD j false=true:=by
    intro j hj;obtain⟨e,he,hb,hor⟩:=s5 i _ ho j hj;have hel:=(hedges e (by simpa using he)).resolve_left (by simp[hb]);have heon:=s6 i _ ho e he hb;rcases hor with rfl|hor
    ·exact hel
    ·exact J.down e.on j hel byO hor
   have hA':∀j,((listed.setIfInBounds i true).getD j false=true)↔(listed.getD j false=true\/j=i):=by
    intro j;simp only[at₀,Array.getElem?_setIfInBounds];by_cases hji:i=j
    ·subst hji;simp[hi2]
    ·simp[hji];intro e;exact absurd e.symm hji
   have hAeq:(fun j=>(listed.setIfInBounds i true).getD j false=true)=(fun j=>listed.getD j false=true\/j=i):=funext fun j=>propext (hA' j);have hcnt':((List.range ops.length).filter fun k=>!(listed.setIfInBounds i true).getD k true).length<=fuel:=by
    have hlt:((List.range ops.length).filter fun k=>!(listed.setIfInBounds i true).getD k true).length<((List.range ops.length).filter fun i=>!listed.getD i true).length:=by
     have sub:((List.range ops.length).filter fun k=>!(listed.setIfInBounds i true).getD k true)=(((List.range ops.length).filter fun i=>!listed.getD i true).filter fun k=>!(k==i)):=by
      rw[List.filter_filter];refine List.filter_congr fun k hk=>?_;simp only[at₀,Array.getElem?_setIfInBounds];by_cases hki:i=k
      ·subst hki;simp[hi2]
      ·have:(k==i)=false:=by simp;exact fun e=>hki e.symm
       simp[hki,this]
     rw[sub];refine List.length_filter_lt_length_iff_exists.2 ⟨i,List.mem_filter.2 ⟨hi0,by simp[hun]⟩,by simp⟩
    omega
   have next:∀a' w' p' ψ' Φ',JD ds P base lo nt ops Ts Hs φ { w with drawn:=w.drawn+1 } (fun j=>listed.getD j false=true\/j=i) a' w' p' ψ' Φ'->wpAny P .any ops.toArray Q fuel (listed.setIfInBounds i true) a' w':=by
    intro a' w' p' ψ' Φ' J';exact ih _ a' w' (by simp[hls]) hcnt' ⟨p',ψ',Φ',by rw[hAeq];exact J'⟩
   unfold wpOp;simp only[aj₀,ho];rw[J.want D ho hpre hnA];cases hw:bR ops (Ts (ps P ops i)) ops[i]with
   | false=>
    simp only[ah₀,if_false];by_cases hk:kd P ops i=3
    ·obtain⟨ψ',J'⟩:=(J.move D hcall hbl hH.dom s1 ho hk hpre hnA).2 hw
     exact next _ _ _ _ _ J'
    ·exact next _ _ _ _ _ (J.idle D s1 ho hk hpre hnA hw)
   | true=>
    simp only[if_true];left;by_cases hk:kd P ops i=3
    ·exact(J.move D hcall hbl hH.dom s1 ho hk hpre hnA).1 hw (fun a' w' ψ' Φ' J'=>next a' w' _ ψ' Φ' J')
    ·by_cases hk2:kd P ops i=2
     ·exact J.make D s1 ho hk2 hpre hnA hw (fun a' w' Φ' J'=>next a' w' p ψ Φ' J')
     ·have hk01:kd P ops i=0\/kd P ops i=1:=by
       have:=zJ (P:=P) (o:=ops[i]);rw[D.kd_at ho]at hk hk2 ⊢;omega
      exact J.light D s1 ho hk01 hpre hnA hw (fun a' J'=>next a' w1 p ψ Φ J')
 refine key ops.length _ a _ (by simp) (Nat.le_trans (List.length_filter_le _ _) (by simp)) ⟨0,φ,φ,?_⟩;have hA0:∀j,¬ ((Array.replicate ops.length false).getD j false=true):=by
  intro j;simp only[at₀,Array.getElem?_replicate];split<;>simp
 refine⟨fun i j h=>absurd h (hA0 i),Nat.zero_le _,fun i hi hk=>⟨fun h=>absurd h (hA0 i),fun h=>byO⟩,fun i hi hk h=>byO,hH.congr rfl,Map.le_refl φ,fun i q hq=>hH.plc i q hq,fun id q hq=>.inl hq,fun k o h1 h2 h3=>absurd h3 (hA0 k),hT.size,hT.defers,fun t m hml hcons=>?_,
  Map.le_refl φ,Nat.le_refl _,fun _ _ _=>rfl,fun i q h0 hq=>by rw[h0]at hq;simp at hq,rfl,rfl⟩
 have hk0:=D.keepT s1 (t:=t) m 0 byO (fun j o hj hd _=>by
  refine Decidable.byContradiction fun hc=>?_;exact hA0 j ((hcons j o hj hd).2 byO))
 rw[Nat.zero_add]at hk0;rw[hk0];exact hT.rel t
theorem B8{ops':List Oper}{ol:Oper}{Q Q':Exit->Act->World->Prop}(hQ:∀e a w,e≠.normal->Q' e a w->Q e a w)(hg:∀o ∈ ops',∀j b,o.guard=some (j,b)->j<ops'.length){i:Nat}(hi:i<ops'.length){K K':Act->World->Prop}(hK:∀a w,K a w->K' a w){a:Act}{w:World}
  (h:wpOp P ops'.toArray Q' i K a w):wpOp P (ops'++[ol]).toArray Q i K' a w:=by
 have ho:ops'[i]?=some ops'[i]:=List.getElem?_eq_getElem hi;have ho2:(ops'++[ol])[i]?=some ops'[i]:=by grind
 unfold wpOp at h ⊢;simp only[aj₀,ho]at h;simp only[aj₀,ho2];have hy:Region.wanted ops'[i] (yielded (ops'++[ol]).toArray a.tmps)=Region.wanted ops'[i] (yielded ops'.toArray a.tmps):=by
  grind[Region.wanted,yielded]
 rw[hy];split at h
 ·rename_i hw
  rw[if_pos hw];refine h.imp (fun h=>?_) (fun⟨h1,a2,w2,h2⟩=>⟨h1,a2,w2,hQ _ _ _ (by simp) h2⟩);unfold Oper.wp at *;generalize (execOp a.eval ops'[i]).run P w=r at *;cases r with
  | ok n w'=>
   cases n<;>simp only[Oper.upon]at h ⊢<;>
    first
     | exact hK _ _ h
     | exact Calls.mono h (fun e w'' he=>by
       cases e with
       | returned v=>simp_all
       | panicked c=>simp_all
       | outgrown=>obtain⟨a2,w2,h2⟩:=he;exact⟨a2,w2,hQ _ _ _ (by simp) h2⟩)
     | grind[Rows.mono]
  | halt x w'=>cases x<;>simp only[Oper.upon]at h ⊢<;>first|exact h|simp_all
 simp_all
theorem yW{ops':List Oper}{ol:Oper}{Q Q':Exit->Act->World->Prop}(hQ:∀e a w,e≠.normal->Q' e a w->Q e a w)(hg:∀o ∈ ops',∀j b,o.guard=some (j,b)->j<ops'.length)
  (hlt:∀(i:Nat) (o:Oper),(ops'++[ol])[i]?=some o->∀e ∈ o.after.toList,Region.binds .any e=true->e.on<i)
  (hbf:∀(i:Nat) (o:Oper),(ops'++[ol])[i]?=some o->∀j ∈ bf (ops'++[ol]) i,∃e ∈ o.after.toList,Region.binds .any e=true/\(e.on=j\/j ∈ bf (ops'++[ol]) e.on))
  (hall:∀j,j<ops'.length->j ∈ bf (ops'++[ol]) ops'.length)
  (hlast:∀a w,Q' .normal a w->wpOp P (ops'++[ol]).toArray Q ops'.length (Q .normal) a w):∀(fuel:Nat) (listed:Array Bool) (a:Act) (w:World),listed.size=ops'.length->(∀i,listed.getD i false=true->∀j ∈ bf (ops'++[ol]) i,listed.getD j false=true) ->
   wpAny P .any ops'.toArray Q' fuel listed a w->wpAny P .any (ops'++[ol]).toArray Q (fuel+1) (listed.push false) a w:=by
 have hlen:(ops'++[ol]).length=ops'.length+1:=by simp
 have pushF:∀(listed:Array Bool),listed.size=ops'.length->∀i,(listed.push false).getD i false=listed.getD i false:=by
  intro listed hs i;simp only[at₀,Array.getElem?_push]
  grind
 have pushT:∀(listed:Array Bool),listed.size=ops'.length->∀i,i<ops'.length->(listed.push false).getD i true=listed.getD i true:=by
  grind
 have rdy:∀(listed:Array Bool),listed.size=ops'.length->∀i,i<ops'.length->(i ∈ Region.ready .any (ops'++[ol]).toArray (listed.push false)↔i ∈ Region.ready .any ops'.toArray listed):=by
  grind[mem_ready]
 have lastR:∀(listed:Array Bool),listed.size=ops'.length->(∀i,listed.getD i false=true->∀j ∈ bf (ops'++[ol]) i,listed.getD j false=true)->ops'.length ∈ Region.ready .any (ops'++[ol]).toArray (listed.push false)->∀j,j<ops'.length->listed.getD j false=true:=by
  intro listed hs hD hr j hj;obtain⟨_,o,ho,hedges⟩:=mem_ready.1 hr
  grind
 have some:∀(listed:Array Bool),listed.size=ops'.length->Region.ready .any (ops'++[ol]).toArray (listed.push false)≠[]:=by
  intro listed hs hnil;have key:∀i,i<ops'.length+1->(listed.push false).getD i false=true:=by
   intro i
   induction i using Nat.strongRecOn with
   | _ i ih=>
    intro hi;refine Decidable.byContradiction fun hne=>?_;have ho:(ops'++[ol])[i]?=some (ops'++[ol])[i]:=bb₀ (by simp;omega)
    grind[mem_ready]
  have:=key ops'.length byO
  grind
 have last:∀(fuel:Nat) (listed:Array Bool) (a:Act) (w:World),listed.size=ops'.length->(∀i,listed.getD i false=true->∀j ∈ bf (ops'++[ol]) i,listed.getD j false=true)->ops'.length ∈ Region.ready .any (ops'++[ol]).toArray (listed.push false)->wpAny P .any ops'.toArray Q' fuel listed a w ->
   wpOp P (ops'++[ol]).toArray Q ops'.length (wpAny P .any (ops'++[ol]).toArray Q fuel ((listed.push false).setIfInBounds ops'.length true)) a w:=by
  intro fuel listed a w hs hD hr h;have hal:=lastR listed hs hD hr;have hnil:Region.ready .any ops'.toArray listed=[]:=by
   rw[List.eq_nil_iff_forall_not_mem]
   grind[mem_ready]
  have hQn:Q' .normal a w:=by
   cases fuel with
   | zero=>exact h.2
   | succ f=>exact h.1 hnil
  refine wpOp_mono (fun a w hq=>wpAny_done ?_ hq fuel) (hlast a w hQn);rw[List.eq_nil_iff_forall_not_mem];intro i hi;obtain⟨h0,o,ho,_⟩:=mem_ready.1 hi;have hil:i<ops'.length+1:=by
   grind
  by_cases he:i=ops'.length
  ·simp_all
  ·have h1:=hal i byO
   rw[getD_set_ne true (fun e=>he e.symm),pushT listed hs i byO]at h0
   grind
 have range:∀(listed:Array Bool),listed.size=ops'.length->∀i,i ∈ Region.ready .any (ops'++[ol]).toArray (listed.push false)->i<ops'.length\/i=ops'.length:=by
  grind[mem_ready]
 intro fuel
 induction fuel with
 | zero=>
  intro listed a w hs hD h;refine⟨fun hnil=>absurd hnil (some listed hs),fun i hi=>?_⟩;rcases range listed hs i hi with hlt|rfl
  ·have:=(rdy listed hs i hlt).1 hi
   rw[h.1]at this;simp at this
  grind
 | succ fuel ih=>
  intro listed a w hs hD h;refine⟨fun hnil=>absurd hnil (some listed hs),fun i hi=>?_⟩;rcases range listed hs i hi with hil|rfl
  ·have hr:=(rdy listed hs i hil).1 hi
   refine B8 hQ hg hil (fun a w hk=>?_) (h.2 i hr);have e:(listed.push false).setIfInBounds i true=(listed.setIfInBounds i true).push false:=by
    apply Array.ext_getElem?;intro j;simp only[Array.getElem?_setIfInBounds,Array.getElem?_push,Array.size_push,Array.size_setIfInBounds];by_cases hij:i=j
    all_goals grind
   rw[e];refine ih _ a w (by simp[hs]) (fun k hk2 j hj=>?_) hk;by_cases hki:k=i
   ·subst hki
    obtain⟨_,o,ho,hedges⟩:=mem_ready.1 hi;rw[aj₀]at ho;obtain⟨e,he,hb,hor⟩:=hbf k o ho j hj
    grind[getD_set_true]
   ·rw[getD_set_ne false (fun e=>hki e.symm)]at hk2
    grind[getD_set_true]
  grind
theorem oz{ops':List Oper}{ol:Oper}{r r':Nat->Bool}(hg:∀o ∈ ops',∀j b,o.guard=some (j,b)->j<ops'.length)(hr:∀i,i<ops'.length->r i=r' i):∀(l:List Nat),(∀i ∈ l,i<ops'.length)->∀T H,bT P callA lo (ops'++[ol]) r l T H=bT P callA lo ops' r' l T H
 | [],_,T,H=>rfl
 | i::l,hl,T,H=>by
  have hi:=hl i (by simp);have ho:(ops'++[ol])[i]?=ops'[i]?:=ax₀ hi;have ho2:ops'[i]?=some ops'[i]:=bb₀ hi;simp only[bT,ho,ho2];have hw:bR (ops'++[ol]) T ops'[i]=bR ops' T ops'[i]:=by
   unfold bR;cases hgd:(ops'[i]).guard with
   | none=>rfl
   | some q=>
    obtain⟨j,b⟩:=q;have hj:=hg _ (List.getElem_mem hi) j b hgd;simp only[ax₀ hj]
  have hs:bY P callA lo (ops'++[ol]) (r i) ops'[i] T H=bY P callA lo ops' (r' i) ops'[i] T H:=by
   unfold bY;rw[hw,hr i hi]
  rw[hs];split
  ·exact oz hg hr l (fun j hj=>hl j (by simp[hj])) _ _
  ·rfl
theorem F8(hm:P.follows .mixedOrders=true){callR:CallR}(hcf:dJ callR.ret)(hcall:fG P base P.globals.size callR.ret)(hpan:pY P base P.globals.size callR.pan):mQ P callR base:=by
 refine⟨fun lo Q id nt ops ds φ H w T a h1 h2 h3 h4 h5 h6 T' H' h7 h8 h9=>wp_region_any hm ?_,fun lo Q id nt ops ds φ H w T a h1 h2 h3 h4 h5 h6 p T' H' h7 h8=>wp_region_any hm ?_⟩
 ·have:=vU hcf hcall lo Q nt ops ds φ H w T a h1 h2 h3 h4 h5 h6 T' H' h7 h8 h9
  simpa using this
 ·rcases h7 with ⟨h,_⟩|⟨_,hl,H1,o,hh,xs,ho,hrun,hw,hres,hsem⟩
  ·cases h
  unfold oA at hl;simp only[ac₀,beq_iff_eq,List.all_eq_true,List.mem_range,List.isEmpty_iff,Bool.not_eq_true',List.contains_eq_mem,af₀]at hl;obtain⟨_,hord,hd',hdp,hdp',hrs,hrl,hall,hgs⟩:=hl;obtain⟨s1,s2,s3,s4,s5,s6,s7,s8,s9,s10,s11⟩:=kb h4;obtain⟨t1,t2,t3,t4,_⟩:=kb hd';generalize hops':ops.dropLast=ops' at *;have hne:ops≠[]:=by rintro rfl;simp at ho
  have hsplit:ops=ops'++[o]:=by
   have h0:=List.dropLast_concat_getLast hne;have h1:ops.getLast hne=o:=by
    have hlen:ops'.length=ops.length-1:=by rw[<-hops'];simp
    rw[List.getLast_eq_getElem];rw[hlen]at ho;rw[bb₀ (by have:=List.length_pos_iff.2 hne;omega)]at ho;simpa using ho
   rw[hops',h1]at h0;exact h0.symm
  have hg:∀o ∈ ops',∀j b,o.guard=some (j,b)->j<ops'.length:=by
   intro o ho j b e;have:=hgs o ho;rw[e]at this;simpa using this
  clear hops';subst hsplit;have hops2:opsOK P nt ops'=true:=List.all_eq_true.2 fun x hx=>List.all_eq_true.1 h3 x (by simp[hx]);rw[oz (r':=bS P ops' true) hg hrs _ (fun i hi=>by
   have hi2:i ∈ ord P ops':=hi;exact t4 i hi2)]at hrun
  have hdist:mV P ops' true T':=by
   intro q hq;rw[hdp']at hq;simp at hq
  have hlastop:∀a' w' φ',Tmps ds φ' nt T' a'->Eff φ base P.globals.size lo H w φ' H1 w'->wpOp P (ops'++[o]).toArray Q ops'.length (Q .normal) a' w':=by
   intro a' w' φ' hT1 he1;obtain⟨hd,hop⟩:=fM h3 o (by simp);unfold wpOp;simp only[aj₀,ho];rw[mA hT1 o,hw];simp only[if_true];left;rw[hres]at hop;refine wO hpan h1 (Nat.le_trans h2 he1.keeps.1) he1.rel hres (fun x hx=>hT1.eval he1.rel.glob x (by
    have:=hop x hx;cases x<;>simp[gu,jv]at this ⊢<;>exact this)) hsem fun cv φ'' w'' heff hv=>?_
   exact h8 a' w'' φ'' cv (hT1.mono heff.le) (Eff.trans he1 heff) hv
  have:=vU hcf hcall lo (fun e a w=>match e with | .normal=>wpOp P (ops'++[o]).toArray Q ops'.length (Q .normal) a w|e=>Q e a w) nt ops' ds φ H w T a h1 h2 hops2 hd' h5 h6 T' H1 hrun hdist hlastop;have h10:=yW (Q:=Q) (ol:=o) (fun e a w hne h=>by cases e<;>first|exact h|exact absurd rfl hne) hg s6 s5 hall (fun a w h=>h) ops'.length _ a _ (by simp) (fun i hi=>by
   exfalso;revert hi;simp only[at₀,Array.getElem?_replicate];split<;>simp) this
  have e:(Array.replicate ops'.length false).push false=Array.replicate (ops'++[o]).length false:=by
   simp[Array.replicate_succ]
  rw[e]at h10;simpa using h10
theorem sound(hm:P.follows .mixedOrders=true){cp:FuncId->Option CF}(hcp:mn P cp)(base:Nat):∀n,RunOK P base P.globals.size (run cp n):=
 ES (fun n h=>F8 hm (ET cp n) h.toRet h.toPan) hcp
end
end Go.Abs
