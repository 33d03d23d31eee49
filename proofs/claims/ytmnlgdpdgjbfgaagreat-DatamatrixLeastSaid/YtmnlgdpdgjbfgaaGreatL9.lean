/- Lemmas. -/
import Derived.Test.YtmnlgdpdgjbfgaaGreatL8
import Derived.LaidSub
set_option linter.all false
namespace Go.Abs
structure Keep (b:Nat)(H H':Heap):Prop where
 len:H.length<=H'.length
 eq:∀i,i<H.length->i≠b->H'.get i=H.get i
theorem Keep.get{b:Nat}{H H':Heap}(h:Keep b H H'){i:Nat}{c:List Value}(hc:H.get i=some c)(hne:i≠b):H'.get i=some c:=(h.eq i (Heap.get_lt hc) hne).trans hc
theorem Keep.ext{b:Nat}{A H H':Heap}(h:Keep b H H')(e:Ext A H)(hb:A.length<=b):Ext A H':=⟨Nat.le_trans e.1 h.len,fun i hi=>(h.eq i (bc₀ hi e.1) byO).trans (e.2 i hi)⟩
def Own(lo sz:Nat)(H:Heap)(v:Value)(b:Nat)(cells:List Value):Prop:=
 lo<=b/\((v=.slice none 0 0/\cells=[])\/∃n,0<n/\n*sz=cells.length/\v=.slice (some ⟨b,0,some sz⟩) n n/\H.get b=some cells)
theorem Own.nil{lo sz:Nat}{H:Heap}{b:Nat}(h:lo<=b):Own lo sz H (.slice none 0 0) b []:=⟨h,.inl ⟨rfl,rfl⟩⟩
theorem Own.mono{lo sz b:Nat}{H H':Heap}{v:Value}{c:List Value}(h:Own lo sz H v b c)(e:Ext H H'):Own lo sz H' v b c:=by
 obtain⟨h1,h|⟨n,a,b,c,d⟩⟩:=h
 ·exact⟨h1,.inl h⟩
 ·exact⟨h1,.inr ⟨n,a,b,c,e.get d⟩⟩
theorem Own.lower{lo lo' sz b:Nat}{H:Heap}{v:Value}{c:List Value}(h:Own lo sz H v b c)(e:lo'<=lo):Own lo' sz H v b c:=⟨Nat.le_trans e h.1,h.2⟩
theorem Own.keep{lo sz b b':Nat}{H H':Heap}{v:Value}{c:List Value}(h:Own lo sz H v b c)(e:Keep b' H H')(hne:b≠b'):Own lo sz H' v b c:=by
 obtain⟨h1,h|⟨n,a,b,c,d⟩⟩:=h
 ·exact⟨h1,.inl h⟩
 ·exact⟨h1,.inr ⟨n,a,b,c,e.get d hne⟩⟩
theorem Own.len{lo sz b:Nat}{H:Heap}{v:Value}{c:List Value}(h:Own lo sz H v b c)(hs:0<sz):∃a n,v=.slice a n n/\n*sz=c.length/\n<=c.length:=by
 obtain⟨h1,⟨rfl,rfl⟩|⟨n,a,b,rfl,d⟩⟩:=h
 ·simp_all
 ·exact⟨_,_,rfl,b,by rw[<-b];exact Nat.le_mul_of_pos_right n hs⟩
section
variable {cp:FuncId->Option CF}{lo:Nat}
theorem mD{sz:Nat}{z:List Value}{H:Heap}{v:Value}{b:Nat}{cells c c':List Value}{t o n m:Nat}{sp:Option Nat}{R:Value->Heap->Prop}(ho:Own lo sz H v b cells)(hlo:lo<=H.length)(hsz:0<sz)(hn:0<n)(hbig:cells.length+n<=4294967296)(ht:H.get t=some c')(hlen:o+n*sz<=c'.length)(hc:(c'.drop o).take (n*sz)=c)(h1:oneCells c=true)
  (k:∀v' H',Own lo sz H' v' H.length (cells++c)->Keep b H H'->H'.length=H.length+1->R v' H'):wpH cp lo (.app sz z) [v,.slice (some ⟨t,o,sp⟩) n m] H R:=by
 have hcl:c.length=n*sz:=by grind
 obtain⟨hb,⟨rfl,rfl⟩|⟨len,hl0,hl1,rfl,hg⟩⟩:=ho
 ·have e:=qv (lo:=lo) (H:=H) (sz:=sz) (z:=z) (i:=t) (o:=o) (n:=n) (m:=m) (sp:=sp) ⟨hn,byO⟩
  rw[ht]at e;simp only[hlen,hc,h1]at e;simp only[wpH];rw[e];refine k _ _ ⟨hlo,.inr ⟨n,hn,by simp_all,rfl,by grind[aG]⟩⟩ ⟨by simp,fun i hi _=>aQ hi⟩ (by simp)
 ·have hle:len<=cells.length:=by rw[<-hl1];exact Nat.le_mul_of_pos_right len hsz
  have e:=tL (lo:=lo) (H:=H) (sz:=sz) (z:=z) (b:=b) (o:=0) (len:=len) (i:=t) (o':=o) (n:=n) (m:=m) (sp:=sp) hb ⟨hn,byO⟩;rw[ht,hg]at e;simp only[hlen,hc,h1,Nat.zero_add,hl1,Nat.le_refl]at e;simp only[wpH];rw[e];refine k _ _ ⟨hlo,.inr ⟨len+n,byO,by grind,rfl,?_⟩⟩ ⟨by simp,fun i hi hne=>?_⟩ (by simp)
  all_goals grind[aG,aQ,aI]
theorem aa{id id2:Nat}{c:E}{body inc:Stm}{Q:bF}{S:List Value}{H:Heap}(I:Nat->List Value->Heap->Prop)(N:Nat)(h0:I 0 S H)
  (hc:∀k S H,k<=N->I k S H->∃t,ev1 S H c=some (.bool t)/\(t=true↔k<N))
  (hb:∀k S H,k<N->I k S H->wpS cp lo (.block id2 body) (vJ cp lo inc (Be (I (k+1)) (iK id Q))) S H)
  (he:∀S H,I N S H->Q .normal S H):wpS cp lo (.loop (.seq (.cond c .skip (.exit id)) (.seq (.block id2 body) inc))) (iK id Q) S H:=by
 refine bH (fun m S H=>∃k,k<=N/\m=N-k/\I k S H) N ⟨0,byO,byO,h0⟩ ?_;rintro m S H ⟨k,hk,rfl,hI⟩;rw[jt];obtain⟨t,ht,hiff⟩:=hc k S H hk hI;refine lM ht ?_ ?_<;>intro h
 ·have hlt:=hiff.1 h
  rw[zS,FL,jt];refine(hb k S H hlt hI).mono ?_;intro ex S' H' hq;cases ex with
  | normal=>
   refine hq.mono ?_;intro ex S' H' hq;cases ex with
   | normal=>exact⟨N-(k+1),byO,k+1,byO,rfl,hq⟩
   | exit i=>assumption
   | ret=>assumption
  | exit i=>assumption
  | ret=>assumption
 ·show iK id Q (.exit id) S H
  grind[nR]
end
def Sl{α:Type}(enc:α->Value)(H:Heap)(v:Value)(l:List α):Prop:=
 (v=.slice none 0 0/\l=[])\/∃b o sp cap xs,v=.slice (some ⟨b,o,sp⟩) l.length cap/\H.get b=some xs/\(xs.drop o).take l.length=l.map enc/\o+l.length<=xs.length/\(sp=none\/sp=some 1)/\l.length<=cap
theorem Sl.mono{α:Type}{enc:α->Value}{H H':Heap}{v:Value}{l:List α}(h:Sl enc H v l)(e:Ext H H'):Sl enc H' v l:=by
 rcases h with h|⟨b,o,sp,cap,xs,h1,h2,h3⟩
 ·exact .inl h
 ·exact .inr ⟨b,o,sp,cap,xs,h1,e.get h2,h3⟩
theorem Sl.len{α:Type}{enc:α->Value}{H:Heap}{v:Value}{l:List α}(h:Sl enc H v l):∃a c,v=.slice a l.length c:=by
 rcases h with ⟨rfl,rfl⟩|⟨b,o,sp,cap,xs,h1,_⟩
 all_goals simp_all
theorem Sl.els{α:Type}{enc:α->Value}(d:α){H:Heap}{v:Value}{l:List α}(h:Sl enc H v l)(hl:0<l.length):∃b o sp cap xs,v=.slice (some ⟨b,o,sp⟩) l.length cap/\H.get b=some xs/\(∀i,i<l.length->xs[o+i]?=some (enc (l.getD i d)))/\o+l.length<=xs.length:=by
 rcases h with ⟨rfl,rfl⟩|⟨b,o,sp,cap,xs,h1,h2,h3⟩
 ·simp at hl
 ·obtain⟨h3,hlen,_⟩:=h3
  refine⟨b,o,sp,cap,xs,h1,h2,fun i hi=>?_,hlen⟩;have e:((xs.drop o).take l.length)[i]?=(l.map enc)[i]?:=by rw[h3]
  grind
theorem Sl.ofOwn{α:Type}{enc:α->Value}{lo:Nat}{H:Heap}{v:Value}{b:Nat}{l:List α}(h:Own lo 1 H v b (l.map enc)):Sl enc H v l:=by
 obtain⟨_,⟨rfl,h⟩|⟨n,_,h1,rfl,h2⟩⟩:=h
 ·exact .inl ⟨rfl,by simpa using h⟩
 ·have:n=l.length:=by simp_all
  subst this;refine .inr ⟨b,0,some 1,_,_,rfl,h2,?_,by simp,.inr rfl,Nat.le_refl _⟩
  grind
theorem Sl.whole{α:Type}{enc:α->Value}{H:Heap}{b n:Nat}{sp:Option Nat}{l:List α}(h:H.get b=some (l.map enc))(hn:l.length=n)(hsp:sp=none\/sp=some 1:=by first|exact .inl rfl|exact .inr rfl):Sl enc H (.slice (some ⟨b,0,sp⟩) n n) l:=by
 subst hn;refine .inr ⟨b,0,sp,_,_,rfl,h,?_,by simp,hsp,Nat.le_refl _⟩
 grind[List.take_of_length_le]
theorem wS{B:Nat}{H:Heap}{k:IntKind}:∀(n:Nat) (c:List Value),HasN (Has B H (.int k)) n c->∃l:List Int,l.length=n/\c=l.map (Value.int k)/\∀x ∈ l,k.min<=x/\x<=k.max
 | 0,c,h=>by simp_all[HasN]
 | n+1,c,h=>by
  obtain⟨a,b,rfl,ha,hb⟩:=h;obtain⟨l,h1,rfl,h3⟩:=wS n b hb;obtain⟨x,rfl,hx⟩:=ha;refine⟨x::l,by simp[h1],rfl,?_⟩
  simp_all
section
variable {cp:FuncId->Option CF}{lo:Nat}{l:List (Nat×E)}{chk:List E}{pc:PC}{dst:Option Nat}{o:HOp}{a:E}{Q:bF}{S S':List Value}{H H':Heap}{vs:List (Nat×Value)}{xs:List Value}{v:Value}
theorem Ks(h:evSets S H l=some vs)(hc:evChk S H chk=true)(hp:holds S H pc=some true)(ha:ev S H a=some xs)(k:wpH cp lo o xs H fun v H'=>Q .normal (setD (setAll S vs) dst v) H'):wpS cp lo (.hv l chk pc dst o a) Q S H:=
 aW h hc hp (fun _=>⟨xs,ha,k⟩) (fun h=>by cases h)
end
abbrev SlI:=Sl (Value.int .i64)
open Go.RowKit Go.ChangeShapes Go.WideShapes
section
variable {P:Program}{w W:World}{X:Type}{enc:TypeId×Value->X}
end
def Sub(c1 c2:FuncId->Option CF):Prop:=∀f cf,c1 f=some cf->c2 f=some cf
theorem rl{c1 c2:FuncId->Option CF}(hs:Sub c1 c2){a b:CallR}(hc:CLeR a b){lo n:Nat}{g:FuncId}{args:List Value}{rv:Value}{H H':Heap}(h:mH c1 a lo n g args rv H=some H'):mH c2 b lo n g args rv H=some H':=by
 have h1:=A9 (cp:=c1) hc (Nat.le_refl n) h;unfold mH at h1 ⊢;cases hg:c1 g with
 | none=>simp_all
 | some cg=>rw[hs g cg hg];simp_all
theorem Ab{c1 c2:FuncId->Option CF}(hs:Sub c1 c2):∀n,CLeR (run c1 n) (run c2 n)
 | 0=>fun _ _ _ _ _ h=>by simp[run]at h
 | n+1=>fun lo f args H r h=>by
  have ih:=Ab hs n;simp only[run]at h ⊢;cases hf:c1 f with
  | none=>rw[hf]at h;simp at h
  | some cf=>
  rw[hs f cf hf];rw[hf]at h;simp only at h ⊢;split at h<;>try (simp at h;done)
  rename_i hl;simp only[hl,if_true];split at h
  ·split at h
   ·rename_i S1 H1 h1
    rw[cC ih (Nat.le_refl n) _ _ _ _ h1];exact h
   ·rename_i S1 H1 h1
    rw[cC ih (Nat.le_refl n) _ _ _ _ h1];exact h
   ·rename_i j q S1 H1 h1
    rw[cC ih (Nat.le_refl n) _ _ _ _ h1];exact h
   ·simp at h
  ·have h1:=A8 (cp:=c1) ih (Nat.le_refl n) h
   unfold kQ at h1 ⊢;split at h1
   ·exact h1
   ·exact h1
   ·split at h1<;>try (simp at h1;done)
    split at h1<;>try (simp at h1;done)
    split at h1
    ·split at h1<;>try (simp at h1;done)
     rename_i hrr;simp only[rl hs (fun _ _ _ _ _ h=>h) hrr];exact h1
    ·split at h1<;>try (simp at h1;done)
     rename_i hrr;simp only[rl hs (fun _ _ _ _ _ h=>h) hrr];exact h1
    ·split at h1<;>try (simp at h1;done)
     rename_i hi;split at h1<;>try (simp at h1;done)
     rename_i hrr;simp only[if_pos hi,rl hs (fun _ _ _ _ _ h=>h) hrr];exact h1
    ·simp at h1
   ·simp at h1
  ·simp at h
theorem Ev.sub{c1 c2:FuncId->Option CF}(hs:Sub c1 c2){lo:Nat}{f:FuncId}{args:List Value}{H:Heap}{R:Value->Heap->Prop}(h:Ev c1 lo f args H R):Ev c2 lo f args H R:=by
 obtain⟨N,v,H',h1,h2⟩:=h;exact⟨N,v,H',fun n hn=>Ab hs n _ _ _ _ _ (h1 n hn),h2⟩
theorem Io{P:Prop}(h:P:=by simp(disch:=try exact dO)only[evB, *]):P:=h
theorem sg{P:Prop}(h:P:=by simp(disch:=try exact dO)only[evB, *];rfl):P:=h
theorem Ss{cp:FuncId->Option CF}{lo:Nat}{l:List (Nat×E)}{chk:List E}{Q:bF}{S:List Value}{H:Heap}{vs:List (Nat×Value)}{S':List Value}(k:Q .normal S' H)(h:evSets S H l=some vs:=by exact sg)(hc:evChk S H chk=true:=by exact Io)(hS:setAll S vs=S':=by exact sg):wpS cp lo (.sets l chk) Q S H:=nM h hc hS k
theorem Sd{cp:FuncId->Option CF}{lo:Nat}{l:List (Nat×E)}{chk:List E}{Q:bF}{S:List Value}{H:Heap}{vs:List (Nat×Value)}{dst:Option Nat}{o:HOp}{a:E}{xs:List Value}(k:wpH cp lo o xs H fun v H'=>Q .normal (setD (setAll S vs) dst v) H')(h:evSets S H l=some vs:=by exact sg)(hc:evChk S H chk=true:=by exact Io)(ha:ev S H a=some xs:=by exact sg):wpS cp lo (.hv l chk [] dst o a) Q S H:=sv h hc ha k
theorem Sk{cp:FuncId->Option CF}{lo:Nat}{l:List (Nat×E)}{chk:List E}{Q:bF}{S:List Value}{H:Heap}{vs:List (Nat×Value)}{dst:Option Nat}{o:HOp}{a:E}{xs:List Value}{S':List Value}{H':Heap}{v:Value}(hcall:o.isCall=false)(k:Q .normal S' H')(h:evSets S H l=some vs:=by exact sg)(hc:evChk S H chk=true:=by exact Io)(ha:ev S H a=some xs:=by exact sg)(ho:cL lo o xs H=some (v,H'):=by exact sg)(hS:setD (setAll S vs) dst v=S':=by exact sg):wpS cp lo (.hv l chk [] dst o a) Q S H:=vZ hcall h hc ha ho hS k
theorem Qj{cp:FuncId->Option CF}{lo:Nat}{c:E}{a b:Stm}{Q:bF}{S:List Value}{H:Heap}{t:Bool}(k1:t=true->wpS cp lo a Q S H)(k2:t=false->wpS cp lo b Q S H)(h:ev1 S H c=some (.bool t):=by exact sg):wpS cp lo (.cond c a b) Q S H:=lM h k1 k2
theorem zL{P Q:Prop}(k:Q)(h:Hdn Q->P:=by intro k;(try simp only[aC]);(repeat' ((first|refine Ss ?_|refine Sk rfl ?_);(try simp only[aC])));exact k.out):P:=h ⟨k⟩
theorem Na{cf:CF}{R:Value->Heap->Prop}{S:List Value}{H:Heap}{vs:List Value}(k:R (aP vs) H)(h:evList S H cf.res=some vs:=by exact sg):iz cf R .ret S H:=j1 h k
theorem Fq{P:Prop}(h:P:=by simp(disch:=try exact dO)only[evB,xtr, *]):P:=h
theorem mI{P:Prop}(h:P:=by simp(disch:=try exact dO)only[evB,xtr, *];rfl):P:=h
theorem So{cp:FuncId->Option CF}{lo:Nat}{l:List (Nat×E)}{chk:List E}{Q:bF}{S:List Value}{H:Heap}{vs:List (Nat×Value)}{S':List Value}(k:Q .normal S' H)(h:evSets S H l=some vs:=by exact mI)(hc:evChk S H chk=true:=by exact Fq)(hS:setAll S vs=S':=by exact mI):wpS cp lo (.sets l chk) Q S H:=nM h hc hS k
theorem e9{cp:FuncId->Option CF}{lo:Nat}{l:List (Nat×E)}{chk:List E}{Q:bF}{S:List Value}{H:Heap}{vs:List (Nat×Value)}{dst:Option Nat}{o:HOp}{a:E}{xs:List Value}(k:wpH cp lo o xs H fun v H'=>Q .normal (setD (setAll S vs) dst v) H')(h:evSets S H l=some vs:=by exact mI)(hc:evChk S H chk=true:=by exact Fq)(ha:ev S H a=some xs:=by exact mI):wpS cp lo (.hv l chk [] dst o a) Q S H:=sv h hc ha k
theorem Sf{cp:FuncId->Option CF}{lo:Nat}{l:List (Nat×E)}{chk:List E}{Q:bF}{S:List Value}{H:Heap}{vs:List (Nat×Value)}{dst:Option Nat}{o:HOp}{a:E}{xs:List Value}{S':List Value}{H':Heap}{v:Value}(hcall:o.isCall=false)(k:Q .normal S' H')(h:evSets S H l=some vs:=by exact mI)(hc:evChk S H chk=true:=by exact Fq)(ha:ev S H a=some xs:=by exact mI)(ho:cL lo o xs H=some (v,H'):=by exact mI)(hS:setD (setAll S vs) dst v=S':=by exact mI):wpS cp lo (.hv l chk [] dst o a) Q S H:=vZ hcall h hc ha ho hS k
theorem dK{cp:FuncId->Option CF}{lo:Nat}{c:E}{a b:Stm}{Q:bF}{S:List Value}{H:Heap}{t:Bool}(k1:t=true->wpS cp lo a Q S H)(k2:t=false->wpS cp lo b Q S H)(h:ev1 S H c=some (.bool t):=by exact mI):wpS cp lo (.cond c a b) Q S H:=lM h k1 k2
theorem aj{P Q:Prop}(k:Q)(h:Hdn Q->P:=by intro k;(try simp only[aC]);(repeat' ((first|refine So ?_|refine Sf rfl ?_);(try simp only[aC])));exact k.out):P:=h ⟨k⟩
theorem eP{cf:CF}{R:Value->Heap->Prop}{S:List Value}{H:Heap}{vs:List Value}(k:R (aP vs) H)(h:evList S H cf.res=some vs:=by exact mI):iz cf R .ret S H:=j1 h k
theorem lK{P:Prop}(h:P:=by simp(disch:=try exact dO)only[evB,xtr,Nat.reduceAdd,Nat.reduceBEq, *]):P:=h
theorem bJ{P:Prop}(h:P:=by simp(disch:=try exact dO)only[evB,xtr,Nat.reduceAdd,Nat.reduceBEq, *];rfl):P:=h
theorem si{P:Prop}(h:P:=by simp(disch:=try exact dO)only[evB,xtr,Nat.reduceAdd,Nat.reduceBEq, *];try rfl):P:=h
theorem Sp{cp:FuncId->Option CF}{lo:Nat}{l:List (Nat×E)}{chk:List E}{Q:bF}{S:List Value}{H:Heap}{vs:List (Nat×Value)}{S':List Value}(k:Q .normal S' H)(h:evSets S H l=some vs:=by exact bJ)(hc:evChk S H chk=true:=by exact lK)(hS:setAll S vs=S':=by exact bJ):wpS cp lo (.sets l chk) Q S H:=nM h hc hS k
theorem bY{cp:FuncId->Option CF}{lo:Nat}{l:List (Nat×E)}{chk:List E}{Q:bF}{S:List Value}{H:Heap}{vs:List (Nat×Value)}{dst:Option Nat}{o:HOp}{a:E}{xs:List Value}(k:wpH cp lo o xs H fun v H'=>Q .normal (setD (setAll S vs) dst v) H')(h:evSets S H l=some vs:=by exact bJ)(hc:evChk S H chk=true:=by exact lK)(ha:ev S H a=some xs:=by exact bJ):wpS cp lo (.hv l chk [] dst o a) Q S H:=sv h hc ha k
theorem Sg{cp:FuncId->Option CF}{lo:Nat}{l:List (Nat×E)}{chk:List E}{Q:bF}{S:List Value}{H:Heap}{vs:List (Nat×Value)}{dst:Option Nat}{o:HOp}{a:E}{xs:List Value}{S':List Value}{H':Heap}{v:Value}(hcall:o.isCall=false)(k:Q .normal S' H')(h:evSets S H l=some vs:=by exact bJ)(hc:evChk S H chk=true:=by exact lK)(ha:ev S H a=some xs:=by exact bJ)(ho:cL lo o xs H=some (v,H'):=by exact bJ)(hS:setD (setAll S vs) dst v=S':=by exact bJ):wpS cp lo (.hv l chk [] dst o a) Q S H:=vZ hcall h hc ha ho hS k
theorem bQ{cp:FuncId->Option CF}{lo:Nat}{c:E}{a b:Stm}{Q:bF}{S:List Value}{H:Heap}{t:Bool}(k1:t=true->wpS cp lo a Q S H)(k2:t=false->wpS cp lo b Q S H)(h:ev1 S H c=some (.bool t):=by exact bJ):wpS cp lo (.cond c a b) Q S H:=lM h k1 k2
theorem aL{P Q:Prop}(k:Q)(h:Hdn Q->P:=by intro k;(try simp only[aC]);(repeat' ((first|refine Sp ?_|refine Sg rfl ?_);(try simp only[aC])));exact k.out):P:=h ⟨k⟩
theorem bU{cf:CF}{R:Value->Heap->Prop}{S:List Value}{H:Heap}{vs:List Value}(k:R (aP vs) H)(h:evList S H cf.res=some vs:=by exact bJ):iz cf R .ret S H:=j1 h k
theorem gW{P:Prop}(h:P:=by simp(disch:=try exact dO)only[evB,xtr,Nat.reduceAdd,Nat.reduceBEq,Int.reduceToNat, *]):P:=h
theorem dP{P:Prop}(h:P:=by simp(disch:=try exact dO)only[evB,xtr,Nat.reduceAdd,Nat.reduceBEq,Int.reduceToNat, *];rfl):P:=h
theorem iw{P:Prop}(h:P:=by simp(disch:=try exact dO)only[evB,xtr,Nat.reduceAdd,Nat.reduceBEq,Int.reduceToNat, *];try rfl):P:=h
theorem Sq{cp:FuncId->Option CF}{lo:Nat}{l:List (Nat×E)}{chk:List E}{Q:bF}{S:List Value}{H:Heap}{vs:List (Nat×Value)}{S':List Value}(k:Q .normal S' H)(h:evSets S H l=some vs:=by exact dP)(hc:evChk S H chk=true:=by exact gW)(hS:setAll S vs=S':=by exact dP):wpS cp lo (.sets l chk) Q S H:=nM h hc hS k
theorem bR{cp:FuncId->Option CF}{lo:Nat}{l:List (Nat×E)}{chk:List E}{Q:bF}{S:List Value}{H:Heap}{vs:List (Nat×Value)}{dst:Option Nat}{o:HOp}{a:E}{xs:List Value}(k:wpH cp lo o xs H fun v H'=>Q .normal (setD (setAll S vs) dst v) H')(h:evSets S H l=some vs:=by exact dP)(hc:evChk S H chk=true:=by exact gW)(ha:ev S H a=some xs:=by exact dP):wpS cp lo (.hv l chk [] dst o a) Q S H:=sv h hc ha k
theorem Si{cp:FuncId->Option CF}{lo:Nat}{l:List (Nat×E)}{chk:List E}{Q:bF}{S:List Value}{H:Heap}{vs:List (Nat×Value)}{dst:Option Nat}{o:HOp}{a:E}{xs:List Value}{S':List Value}{H':Heap}{v:Value}(hcall:o.isCall=false)(k:Q .normal S' H')(h:evSets S H l=some vs:=by exact dP)(hc:evChk S H chk=true:=by exact gW)(ha:ev S H a=some xs:=by exact dP)(ho:cL lo o xs H=some (v,H'):=by exact dP)(hS:setD (setAll S vs) dst v=S':=by exact dP):wpS cp lo (.hv l chk [] dst o a) Q S H:=vZ hcall h hc ha ho hS k
theorem aN{cp:FuncId->Option CF}{lo:Nat}{c:E}{a b:Stm}{Q:bF}{S:List Value}{H:Heap}{t:Bool}(k1:t=true->wpS cp lo a Q S H)(k2:t=false->wpS cp lo b Q S H)(h:ev1 S H c=some (.bool t):=by exact dP):wpS cp lo (.cond c a b) Q S H:=lM h k1 k2
theorem aE{P Q:Prop}(k:Q)(h:Hdn Q->P:=by intro k;(try simp only[aC]);(repeat' ((first|refine Sq ?_|refine Si rfl ?_);(try simp only[aC])));exact k.out):P:=h ⟨k⟩
theorem dB{cf:CF}{R:Value->Heap->Prop}{S:List Value}{H:Heap}{vs:List Value}(k:R (aP vs) H)(h:evList S H cf.res=some vs:=by exact dP):iz cf R .ret S H:=j1 h k
theorem Im{P:Prop}(h:P:=by simp(disch:=try exact dO)only[evB,xtr,Nat.reduceAdd,Nat.reduceMul,Nat.reduceBEq,Int.reduceToNat,Int.reduceEq,Int.reduceNe, *]):P:=h
theorem oL{P:Prop}(h:P:=by simp(disch:=try exact dO)only[evB,xtr,Nat.reduceAdd,Nat.reduceMul,Nat.reduceBEq,Int.reduceToNat,Int.reduceEq,Int.reduceNe, *];rfl):P:=h
theorem Se{P:Prop}(h:P:=by simp(disch:=try exact dO)only[evB,xtr,Nat.reduceAdd,Nat.reduceMul,Nat.reduceBEq,Int.reduceToNat,Int.reduceEq,Int.reduceNe, *];try rfl):P:=h
theorem Sr{cp:FuncId->Option CF}{lo:Nat}{l:List (Nat×E)}{chk:List E}{Q:bF}{S:List Value}{H:Heap}{vs:List (Nat×Value)}{S':List Value}(k:Q .normal S' H)(h:evSets S H l=some vs:=by exact oL)(hc:evChk S H chk=true:=by exact Im)(hS:setAll S vs=S':=by exact oL):wpS cp lo (.sets l chk) Q S H:=nM h hc hS k
theorem vX{cp:FuncId->Option CF}{lo:Nat}{l:List (Nat×E)}{chk:List E}{Q:bF}{S:List Value}{H:Heap}{vs:List (Nat×Value)}{dst:Option Nat}{o:HOp}{a:E}{xs:List Value}(k:wpH cp lo o xs H fun v H'=>Q .normal (setD (setAll S vs) dst v) H')(h:evSets S H l=some vs:=by exact oL)(hc:evChk S H chk=true:=by exact Im)(ha:ev S H a=some xs:=by exact oL):wpS cp lo (.hv l chk [] dst o a) Q S H:=sv h hc ha k
theorem Sj{cp:FuncId->Option CF}{lo:Nat}{l:List (Nat×E)}{chk:List E}{Q:bF}{S:List Value}{H:Heap}{vs:List (Nat×Value)}{dst:Option Nat}{o:HOp}{a:E}{xs:List Value}{S':List Value}{H':Heap}{v:Value}(hcall:o.isCall=false)(k:Q .normal S' H')(h:evSets S H l=some vs:=by exact oL)(hc:evChk S H chk=true:=by exact Im)(ha:ev S H a=some xs:=by exact oL)(ho:cL lo o xs H=some (v,H'):=by exact oL)(hS:setD (setAll S vs) dst v=S':=by exact oL):wpS cp lo (.hv l chk [] dst o a) Q S H:=vZ hcall h hc ha ho hS k
theorem x8{cp:FuncId->Option CF}{lo:Nat}{c:E}{a b:Stm}{Q:bF}{S:List Value}{H:Heap}{t:Bool}(k1:t=true->wpS cp lo a Q S H)(k2:t=false->wpS cp lo b Q S H)(h:ev1 S H c=some (.bool t):=by exact oL):wpS cp lo (.cond c a b) Q S H:=lM h k1 k2
theorem nH{P Q:Prop}(k:Q)(h:Hdn Q->P:=by intro k;(try simp only[aC]);(repeat' ((first|refine Sr ?_|refine Sj rfl ?_);(try simp only[aC])));exact k.out):P:=h ⟨k⟩
theorem St{cp:FuncId->Option CF}{lo:Nat}{l:List (Nat×E)}{chk:List E}{Q:bF}{S:List Value}{H:Heap}{vs:List (Nat×Value)}{dst:Option Nat}{o:HOp}{a:E}{xs:List Value}{pc:PC}(k:wpH cp lo o xs H fun v H'=>Q .normal (setD (setAll S vs) dst v) H')(h:evSets S H l=some vs:=by exact oL)(hc:evChk S H chk=true:=by exact Im)(hp:holds S H pc=some true:=by exact Se)(ha:ev S H a=some xs:=by exact oL):wpS cp lo (.hv l chk pc dst o a) Q S H:=Ks h hc hp ha k
theorem N9{cf:CF}{R:Value->Heap->Prop}{S:List Value}{H:Heap}{vs:List Value}(k:R (aP vs) H)(h:evList S H cf.res=some vs:=by exact oL):iz cf R .ret S H:=j1 h k
theorem aJ{S:List Value}{F:(Nat->Value)->List Value}(h:S=F (fun k=>S.getD k undef)):∃z,S=F z:=⟨_,h⟩
end Go.Abs
