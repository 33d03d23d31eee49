/- Lemmas. -/
import Derived.Test.YtmnlgdpdgjbfgaaGreatE8
import Derived.LaidSub
set_option linter.unusedVariables false
set_option linter.unusedSimpArgs false
set_option linter.unusedSectionVars false
namespace Go.Abs
structure Keep (b:Nat)(H H':Heap):Prop where
 len:H.length≤H'.length
 eq:∀i,i<H.length→i≠b→H'.get i=H.get i
theorem Keep.get{b:Nat}{H H':Heap}(h:Keep b H H'){i:Nat}{c:List Value}(hc:H.get i=some c)(hne:i≠b):H'.get i=some c:=(h.eq i (Heap.get_lt hc) hne).trans hc
theorem Keep.ext{b:Nat}{A H H':Heap}(h:Keep b H H')(e:Ext A H)(hb:A.length≤b):Ext A H':=⟨Nat.le_trans e.1 h.len,fun i hi=>(h.eq i (Nat.lt_of_lt_of_le hi e.1) (by omega)).trans (e.2 i hi)⟩
def Own(lo sz:Nat)(H:Heap)(v:Value)(b:Nat)(cells:List Value):Prop:=
 lo≤b∧((v=.slice none 0 0∧cells=[])∨∃n,0<n∧n*sz=cells.length∧v=.slice (some ⟨b,0,some sz⟩) n n∧H.get b=some cells)
theorem Own.nil{lo sz:Nat}{H:Heap}{b:Nat}(h:lo≤b):Own lo sz H (.slice none 0 0) b []:=⟨h,.inl ⟨rfl,rfl⟩⟩
theorem Own.mono{lo sz b:Nat}{H H':Heap}{v:Value}{c:List Value}(h:Own lo sz H v b c)(e:Ext H H'):Own lo sz H' v b c:=by
 obtain⟨h1,h|⟨n,a,b,c,d⟩⟩:=h
 ·exact⟨h1,.inl h⟩
 ·exact⟨h1,.inr ⟨n,a,b,c,e.get d⟩⟩
theorem Own.lower{lo lo' sz b:Nat}{H:Heap}{v:Value}{c:List Value}(h:Own lo sz H v b c)(e:lo'≤lo):Own lo' sz H v b c:=⟨Nat.le_trans e h.1,h.2⟩
theorem Own.keep{lo sz b b':Nat}{H H':Heap}{v:Value}{c:List Value}(h:Own lo sz H v b c)(e:Keep b' H H')(hne:b≠b'):Own lo sz H' v b c:=by
 obtain⟨h1,h|⟨n,a,b,c,d⟩⟩:=h
 ·exact⟨h1,.inl h⟩
 ·exact⟨h1,.inr ⟨n,a,b,c,e.get d hne⟩⟩
theorem Own.len{lo sz b:Nat}{H:Heap}{v:Value}{c:List Value}(h:Own lo sz H v b c)(hs:0<sz):∃a n,v=.slice a n n∧n*sz=c.length∧n≤c.length:=by
 obtain⟨h1,⟨rfl,rfl⟩|⟨n,a,b,rfl,d⟩⟩:=h
 ·exact⟨_,_,rfl,by simp,by simp⟩
 ·exact⟨_,_,rfl,b,by rw[←b];exact Nat.le_mul_of_pos_right n hs⟩
section
variable {cp:FuncId→Option CF}{lo:Nat}
theorem dR{sz:Nat}{z:List Value}{H:Heap}{v:Value}{b:Nat}{cells c c':List Value}{t o n m:Nat}{sp:Option Nat}{R:Value→Heap→Prop}(ho:Own lo sz H v b cells)(hlo:lo≤H.length)(hsz:0<sz)(hn:0<n)(hbig:cells.length+n≤4294967296)(ht:H.get t=some c')(hlen:o+n*sz≤c'.length)(hc:(c'.drop o).take (n*sz)=c)(h1:oneCells c=true)
  (k:∀v' H',Own lo sz H' v' H.length (cells++c)→Keep b H H'→H'.length=H.length+1→R v' H'):wpH cp lo (.app sz z) [v,.slice (some ⟨t,o,sp⟩) n m] H R:=by
 have hcl:c.length=n*sz:=by rw[←hc];simp;omega
 obtain⟨hb,⟨rfl,rfl⟩|⟨len,hl0,hl1,rfl,hg⟩⟩:=ho
 ·have e:=pV (lo:=lo) (H:=H) (sz:=sz) (z:=z) (i:=t) (o:=o) (n:=n) (m:=m) (sp:=sp) ⟨hn,by simpa using hbig⟩
  rw[ht]at e
  simp only[hlen,hc,h1,and_self,if_true]at e
  simp only[wpH]
  rw[e]
  refine k _ _ ⟨hlo,.inr ⟨n,hn,by simpa using hcl.symm,rfl,by rw[aN];simp⟩⟩ ⟨by simp,fun i hi _=>ef hi⟩ (by simp)
 ·have hle:len≤cells.length:=by rw[←hl1];exact Nat.le_mul_of_pos_right len hsz
  have e:=ru (lo:=lo) (H:=H) (sz:=sz) (z:=z) (b:=b) (o:=0) (len:=len) (i:=t) (o':=o) (n:=n) (m:=m) (sp:=sp) hb ⟨hn,by omega⟩
  rw[ht,hg]at e
  simp only[hlen,hc,h1,and_self,if_true,Nat.zero_add,hl1,Nat.le_refl,List.drop_zero,List.take_length]at e
  simp only[wpH]
  rw[e]
  refine k _ _ ⟨hlo,.inr ⟨len+n,by omega,by rw[Nat.add_mul,hl1,List.length_append,hcl],rfl,?_⟩⟩ ⟨by simp,fun i hi hne=>?_⟩ (by simp)
  ·have:(H.set b none).length=H.length:=by simp
   rw[←this,aN]
  ·rw[ef (by simpa using hi),aM (fun e=>hne e.symm)]
theorem aU{id id2:Nat}{c:E}{body inc:Stm}{Q:aS}{S:List Value}{H:Heap}(I:Nat→List Value→Heap→Prop)(N:Nat)(h0:I 0 S H)
  (hc:∀k S H,k≤N→I k S H→∃t,ev1 S H c=some (.bool t)∧(t=true↔k<N))
  (hb:∀k S H,k<N→I k S H→wpS cp lo (.block id2 body) (xl cp lo inc (C4 (I (k+1)) (je id Q))) S H)
  (he:∀S H,I N S H→Q .normal S H):wpS cp lo (.loop (.seq (.cond c .skip (.exit id)) (.seq (.block id2 body) inc))) (je id Q) S H:=by
 refine bI (fun m S H=>∃k,k≤N∧m=N-k∧I k S H) N ⟨0,by omega,by omega,h0⟩ ?_
 rintro m S H ⟨k,hk,rfl,hI⟩
 rw[yV]
 obtain⟨t,ht,hiff⟩:=hc k S H hk hI
 refine cJ ht (fun h=>?_) (fun h=>?_)
 ·have hlt:=hiff.1 h
  rw[zW,yI,yV]
  refine(hb k S H hlt hI).mono ?_
  intro ex S' H' hq
  cases ex with
  | normal=>
   rw[yI]at hq ⊢
   refine hq.mono ?_
   intro ex S' H' hq
   cases ex with
   | normal=>rw[Ew]at hq;exact⟨N-(k+1),by omega,k+1,by omega,rfl,hq⟩
   | exit i=>rw[uB]at hq;exact hq
   | ret=>rw[xq]at hq;exact hq
  | exit i=>rw[uK]at hq ⊢;rw[uB]at hq;exact hq
  | ret=>rw[DB]at hq ⊢;rw[xq]at hq;exact hq
 ·have hge:k=N:=by
   have:¬ k<N:=fun h2=>by rw[hiff.2 h2]at h;cases h
   omega
  subst hge
  rw[zL,uK]
  show je id Q (.exit id) S H
  rw[n9,if_pos rfl]
  exact he S H hI
end
def Sl{α:Type}(enc:α→Value)(H:Heap)(v:Value)(l:List α):Prop:=
 (v=.slice none 0 0∧l=[])∨∃b o sp cap xs,v=.slice (some ⟨b,o,sp⟩) l.length cap∧H.get b=some xs∧(xs.drop o).take l.length=l.map enc∧o+l.length≤xs.length∧(sp=none∨sp=some 1)∧l.length≤cap
theorem Sl.mono{α:Type}{enc:α→Value}{H H':Heap}{v:Value}{l:List α}(h:Sl enc H v l)(e:Ext H H'):Sl enc H' v l:=by
 rcases h with h|⟨b,o,sp,cap,xs,h1,h2,h3⟩
 ·exact .inl h
 ·exact .inr ⟨b,o,sp,cap,xs,h1,e.get h2,h3⟩
theorem Sl.len{α:Type}{enc:α→Value}{H:Heap}{v:Value}{l:List α}(h:Sl enc H v l):∃a c,v=.slice a l.length c:=by
 rcases h with ⟨rfl,rfl⟩|⟨b,o,sp,cap,xs,h1,_⟩
 ·exact⟨_,_,rfl⟩
 ·exact⟨_,_,h1⟩
theorem Sl.els{α:Type}{enc:α→Value}(d:α){H:Heap}{v:Value}{l:List α}(h:Sl enc H v l)(hl:0<l.length):∃b o sp cap xs,v=.slice (some ⟨b,o,sp⟩) l.length cap∧H.get b=some xs∧(∀i,i<l.length→xs[o+i]?=some (enc (l.getD i d)))∧o+l.length≤xs.length:=by
 rcases h with ⟨rfl,rfl⟩|⟨b,o,sp,cap,xs,h1,h2,h3⟩
 ·simp at hl
 ·obtain⟨h3,hlen,_⟩:=h3
  refine⟨b,o,sp,cap,xs,h1,h2,fun i hi=>?_,hlen⟩
  have e:((xs.drop o).take l.length)[i]?=(l.map enc)[i]?:=by rw[h3]
  rw[List.getElem?_take,if_pos hi,List.getElem?_drop]at e
  rw[e,List.getElem?_map,List.getElem?_eq_getElem hi,List.getD_eq_getElem?_getD,List.getElem?_eq_getElem hi]
  rfl
theorem Sl.ofOwn{α:Type}{enc:α→Value}{lo:Nat}{H:Heap}{v:Value}{b:Nat}{l:List α}(h:Own lo 1 H v b (l.map enc)):Sl enc H v l:=by
 obtain⟨_,⟨rfl,h⟩|⟨n,_,h1,rfl,h2⟩⟩:=h
 ·exact .inl ⟨rfl,by simpa using h⟩
 ·have:n=l.length:=by simpa using h1
  subst this
  refine .inr ⟨b,0,some 1,_,_,rfl,h2,?_,by simp,.inr rfl,Nat.le_refl _⟩
  rw[List.drop_zero,List.take_of_length_le (by simp)]
theorem Sl.whole{α:Type}{enc:α→Value}{H:Heap}{b n:Nat}{sp:Option Nat}{l:List α}(h:H.get b=some (l.map enc))(hn:l.length=n)(hsp:sp=none∨sp=some 1:=by first|exact .inl rfl|exact .inr rfl):Sl enc H (.slice (some ⟨b,0,sp⟩) n n) l:=by
 subst hn
 refine .inr ⟨b,0,sp,_,_,rfl,h,?_,by simp,hsp,Nat.le_refl _⟩
 rw[List.drop_zero,List.take_of_length_le (by simp)]
theorem vO{B:Nat}{H:Heap}{k:IntKind}:∀(n:Nat) (c:List Value),HasN (Has B H (.int k)) n c→∃l:List Int,l.length=n∧c=l.map (Value.int k)∧∀x ∈ l,k.min≤x∧x≤k.max
 | 0,c,h=>by simp only[HasN]at h;subst h;exact⟨[],rfl,rfl,by simp⟩
 | n+1,c,h=>by
  simp only[HasN]at h
  obtain⟨a,b,rfl,ha,hb⟩:=h
  obtain⟨l,h1,rfl,h3⟩:=vO n b hb
  simp only[Has]at ha
  obtain⟨x,rfl,hx⟩:=ha
  refine⟨x::l,by simp[h1],rfl,?_⟩
  intro y hy
  rcases List.mem_cons.1 hy with rfl|hy
  ·exact hx
  ·exact h3 y hy
theorem IB{B:Nat}{H:Heap}{k:IntKind}{v:Value}(h:Has B H (.sl (.int k)) [v]):∃l:List Int,Sl (Value.int k) H v l∧l.length≤B∧(∀x ∈ l,k.min≤x∧x≤k.max)∧((v=.slice none 0 0∧l=[])∨∃(b cap:Nat) (xs:List Int),v=.slice (some ⟨b,0,none⟩) l.length cap∧H.get b=some (xs.map (Value.int k))∧l=xs.take l.length∧l.length≤xs.length):=by
 simp only[Has]at h
 rcases h with h|⟨i,len,cap,c,h1,h2,h3,h4,h5,h6⟩
 ·cases h
  exact⟨[],.inl ⟨rfl,rfl⟩,by simp,by simp,.inl ⟨rfl,rfl⟩⟩
 ·cases h1
  obtain⟨xs,hl,rfl,hr⟩:=vO (B:=B) (H:=H) _ _ h6
  have hlen:(xs.take len).length=len:=by simp;omega
  refine⟨xs.take len,.inr ⟨i,0,none,cap,_,by rw[hlen],h5,by rw[List.drop_zero,hlen,List.map_take],by simp;omega,.inl rfl,by simp;omega⟩,by omega,fun x hx=>hr x (List.mem_of_mem_take hx),.inr ⟨i,cap,xs,by rw[hlen],h5,by rw[hlen],by omega⟩⟩
section
variable {cp:FuncId→Option CF}{lo:Nat}{l:List (Nat×E)}{chk:List E}{pc:PC}{dst:Option Nat}{o:HOp}{a:E}{Q:aS}{S S':List Value}{H H':Heap}{vs:List (Nat×Value)}{xs:List Value}{v:Value}
theorem yY(h:evSets S H l=some vs)(hc:evChk S H chk=true)(hp:holds S H pc=some true)(ha:ev S H a=some xs)(k:wpH cp lo o xs H fun v H'=>Q .normal (setD (setAll S vs) dst v) H'):wpS cp lo (.hv l chk pc dst o a) Q S H:=
 au h hc hp (fun _=>⟨xs,ha,k⟩) (fun h=>by cases h)
theorem ML(hcall:o.isCall=false)(h:evSets S H l=some vs)(hc:evChk S H chk=true)(hp:holds S H pc=some true)(ha:ev S H a=some xs)
  (ho:bG lo o xs H=some (v,H')) (hS:setD (setAll S vs) dst v=S') (k:Q .normal S' H'):wpS cp lo (.hv l chk pc dst o a) Q S H:=by
 subst hS
 refine yY h hc hp ha ?_
 cases o
 case call raise=>simp[HOp.isCall]at hcall
 case callC=>simp[HOp.isCall]at hcall
 all_goals (simp only[wpH];rw[ho];exact k)
end
abbrev SlI:=Sl (Value.int .i64)
open Go.RowKit Go.ChangeShapes Go.WideShapes
section
variable {P:Program}{w W:World}{X:Type}{enc:TypeId×Value→X}
end
def Sub(c1 c2:FuncId→Option CF):Prop:=∀f cf,c1 f=some cf→c2 f=some cf
theorem qZ{c1 c2:FuncId→Option CF}(hs:Sub c1 c2){a b:CallR}(hc:CLeR a b){lo n:Nat}{g:FuncId}{args:List Value}{rv:Value}{H H':Heap}(h:kN c1 a lo n g args rv H=some H'):kN c2 b lo n g args rv H=some H':=by
 have h1:=pC (cp:=c1) hc (Nat.le_refl n) h
 unfold kN at h1 ⊢
 cases hg:c1 g with
 | none=>rw[hg]at h1;simp at h1
 | some cg=>rw[hs g cg hg];rw[hg]at h1;exact h1
theorem zZ{c1 c2:FuncId→Option CF}(hs:Sub c1 c2):∀n,CLeR (run c1 n) (run c2 n)
 | 0=>fun _ _ _ _ _ h=>by simp[run]at h
 | n+1=>fun lo f args H r h=>by
  have ih:=zZ hs n
  simp only[run]at h ⊢
  cases hf:c1 f with
  | none=>rw[hf]at h;simp at h
  | some cf=>
  rw[hs f cf hf]
  rw[hf]at h
  simp only at h ⊢
  split at h<;>try (simp at h;done)
  rename_i hl
  simp only[hl,if_true]
  split at h
  ·split at h
   ·rename_i S1 H1 h1
    rw[bj ih (Nat.le_refl n) _ _ _ _ h1];exact h
   ·rename_i S1 H1 h1
    rw[bj ih (Nat.le_refl n) _ _ _ _ h1];exact h
   ·rename_i j q S1 H1 h1
    rw[bj ih (Nat.le_refl n) _ _ _ _ h1];exact h
   ·simp at h
  ·have h1:=zQ (cp:=c1) ih (Nat.le_refl n) h
   unfold kA at h1 ⊢
   split at h1
   ·exact h1
   ·exact h1
   ·split at h1<;>try (simp at h1;done)
    split at h1<;>try (simp at h1;done)
    split at h1
    ·split at h1<;>try (simp at h1;done)
     rename_i hrr
     simp only[qZ hs (fun _ _ _ _ _ h=>h) hrr];exact h1
    ·split at h1<;>try (simp at h1;done)
     rename_i hrr
     simp only[qZ hs (fun _ _ _ _ _ h=>h) hrr];exact h1
    ·split at h1<;>try (simp at h1;done)
     rename_i hi
     split at h1<;>try (simp at h1;done)
     rename_i hrr
     simp only[if_pos hi,qZ hs (fun _ _ _ _ _ h=>h) hrr];exact h1
    ·simp at h1
   ·simp at h1
  ·simp at h
theorem Ev.sub{c1 c2:FuncId→Option CF}(hs:Sub c1 c2){lo:Nat}{f:FuncId}{args:List Value}{H:Heap}{R:Value→Heap→Prop}(h:Ev c1 lo f args H R):Ev c2 lo f args H R:=by
 obtain⟨N,v,H',h1,h2⟩:=h
 exact⟨N,v,H',fun n hn=>zZ hs n _ _ _ _ _ (h1 n hn),h2⟩
end Go.Abs
