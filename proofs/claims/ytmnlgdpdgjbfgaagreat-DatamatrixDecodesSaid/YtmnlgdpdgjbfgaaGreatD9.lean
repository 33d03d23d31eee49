/- Lemmas. -/
import Derived.Test.YtmnlgdpdgjbfgaaGreatD8
import Derived.LaidSub
set_option linter.all false
namespace Go.Abs
structure Keep (b:Nat)(H H':Heap):Prop where
 len:H.length<=H'.length
 eq:∀i,i<H.length->i≠b->H'.get i=H.get i
theorem Keep.get{b:Nat}{H H':Heap}(h:Keep b H H'){i:Nat}{c:List Value}(hc:H.get i=some c)(hne:i≠b):H'.get i=some c:=(h.eq i (Heap.get_lt hc) hne).trans hc
theorem Keep.ext{b:Nat}{A H H':Heap}(h:Keep b H H')(e:Ext A H)(hb:A.length<=b):Ext A H':=⟨Nat.le_trans e.1 h.len,fun i hi=>(h.eq i (bc₀ hi e.1) byO).trans (e.2 i hi)⟩
def Own(lo sz:Nat)(H:Heap)(v:Value)(b:Nat)(cells:List Value):Prop:=
 lo<=b/\((v=.slice none 0 0/\cells=[])\/∃n,0<n/\n*sz=cells.length/\v=.slice (some ⟨b,0,some sz⟩) n n/\H.get b=some cells)
theorem Own.nil{lo sz:Nat}{H:Heap}{b:Nat}(h:lo<=b):Own lo sz H (.slice none 0 0) b []:=⟨h,.inl ⟨rfl,rfl⟩⟩
theorem Own.mono{lo sz b:Nat}{H H':Heap}{v:Value}{c:List Value}(h:Own lo sz H v b c)(e:Ext H H'):Own lo sz H' v b c:=by
 obtain⟨h1,h|⟨n,a,b,c,d⟩⟩:=h
 ·exact⟨h1,.inl h⟩
 ·exact⟨h1,.inr ⟨n,a,b,c,e.get d⟩⟩
theorem Own.lower{lo lo' sz b:Nat}{H:Heap}{v:Value}{c:List Value}(h:Own lo sz H v b c)(e:lo'<=lo):Own lo' sz H v b c:=⟨Nat.le_trans e h.1,h.2⟩
theorem Own.keep{lo sz b b':Nat}{H H':Heap}{v:Value}{c:List Value}(h:Own lo sz H v b c)(e:Keep b' H H')(hne:b≠b'):Own lo sz H' v b c:=by
 obtain⟨h1,h|⟨n,a,b,c,d⟩⟩:=h
 ·exact⟨h1,.inl h⟩
 ·exact⟨h1,.inr ⟨n,a,b,c,e.get d hne⟩⟩
theorem Own.len{lo sz b:Nat}{H:Heap}{v:Value}{c:List Value}(h:Own lo sz H v b c)(hs:0<sz):∃a n,v=.slice a n n/\n*sz=c.length/\n<=c.length:=by
 obtain⟨h1,⟨rfl,rfl⟩|⟨n,a,b,rfl,d⟩⟩:=h
 ·simp_all
 ·exact⟨_,_,rfl,b,by rw[<-b];exact Nat.le_mul_of_pos_right n hs⟩
section
variable {cp:FuncId->Option CF}{lo:Nat}
theorem dG{sz:Nat}{z:List Value}{H:Heap}{v:Value}{b:Nat}{cells c c':List Value}{t o n m:Nat}{sp:Option Nat}{R:Value->Heap->Prop}(ho:Own lo sz H v b cells)(hlo:lo<=H.length)(hsz:0<sz)(hn:0<n)(hbig:cells.length+n<=4294967296)(ht:H.get t=some c')(hlen:o+n*sz<=c'.length)(hc:(c'.drop o).take (n*sz)=c)(h1:oneCells c=true)
  (k:∀v' H',Own lo sz H' v' H.length (cells++c)->Keep b H H'->H'.length=H.length+1->R v' H'):wpH cp lo (.app sz z) [v,.slice (some ⟨t,o,sp⟩) n m] H R:=by
 have hcl:c.length=n*sz:=by grind
 obtain⟨hb,⟨rfl,rfl⟩|⟨len,hl0,hl1,rfl,hg⟩⟩:=ho
 ·have e:=qX (lo:=lo) (H:=H) (sz:=sz) (z:=z) (i:=t) (o:=o) (n:=n) (m:=m) (sp:=sp) ⟨hn,byO⟩
  rw[ht]at e;simp only[hlen,hc,h1]at e;simp only[wpH];rw[e];refine k _ _ ⟨hlo,.inr ⟨n,hn,by simp_all,rfl,by grind[aK]⟩⟩ ⟨by simp,fun i hi _=>dN hi⟩ (by simp)
 ·have hle:len<=cells.length:=by rw[<-hl1];exact Nat.le_mul_of_pos_right len hsz
  have e:=sU (lo:=lo) (H:=H) (sz:=sz) (z:=z) (b:=b) (o:=0) (len:=len) (i:=t) (o':=o) (n:=n) (m:=m) (sp:=sp) hb ⟨hn,byO⟩;rw[ht,hg]at e;simp only[hlen,hc,h1,Nat.zero_add,hl1,Nat.le_refl]at e;simp only[wpH];rw[e];refine k _ _ ⟨hlo,.inr ⟨len+n,byO,by grind,rfl,?_⟩⟩ ⟨by simp,fun i hi hne=>?_⟩ (by simp)
  all_goals grind[aK,dN,aH]
theorem aa{id id2:Nat}{c:E}{body inc:Stm}{Q:bz}{S:List Value}{H:Heap}(I:Nat->List Value->Heap->Prop)(N:Nat)(h0:I 0 S H)
  (hc:∀k S H,k<=N->I k S H->∃t,ev1 S H c=some (.bool t)/\(t=true↔k<N))
  (hb:∀k S H,k<N->I k S H->wpS cp lo (.block id2 body) (uf cp lo inc (Aw (I (k+1)) (iQ id Q))) S H)
  (he:∀S H,I N S H->Q .normal S H):wpS cp lo (.loop (.seq (.cond c .skip (.exit id)) (.seq (.block id2 body) inc))) (iQ id Q) S H:=by
 refine aY (fun m S H=>∃k,k<=N/\m=N-k/\I k S H) N ⟨0,byO,byO,h0⟩ ?_;rintro m S H ⟨k,hk,rfl,hI⟩;rw[wu];obtain⟨t,ht,hiff⟩:=hc k S H hk hI;refine lL ht ?_ ?_<;>intro h
 ·have hlt:=hiff.1 h
  rw[ya,E1,wu];refine(hb k S H hlt hI).mono ?_;intro ex S' H' hq;cases ex with
  | normal=>
   refine hq.mono ?_;intro ex S' H' hq;cases ex with
   | normal=>exact⟨N-(k+1),byO,k+1,byO,rfl,hq⟩
   | exit i=>assumption
   | ret=>assumption
  | exit i=>assumption
  | ret=>assumption
 ·show iQ id Q (.exit id) S H
  grind[kT]
end
def Sl{α:Type}(enc:α->Value)(H:Heap)(v:Value)(l:List α):Prop:=
 (v=.slice none 0 0/\l=[])\/∃b o sp cap xs,v=.slice (some ⟨b,o,sp⟩) l.length cap/\H.get b=some xs/\(xs.drop o).take l.length=l.map enc/\o+l.length<=xs.length/\(sp=none\/sp=some 1)/\l.length<=cap
theorem Sl.mono{α:Type}{enc:α->Value}{H H':Heap}{v:Value}{l:List α}(h:Sl enc H v l)(e:Ext H H'):Sl enc H' v l:=by
 rcases h with h|⟨b,o,sp,cap,xs,h1,h2,h3⟩
 ·exact .inl h
 ·exact .inr ⟨b,o,sp,cap,xs,h1,e.get h2,h3⟩
theorem Sl.len{α:Type}{enc:α->Value}{H:Heap}{v:Value}{l:List α}(h:Sl enc H v l):∃a c,v=.slice a l.length c:=by
 rcases h with ⟨rfl,rfl⟩|⟨b,o,sp,cap,xs,h1,_⟩
 all_goals simp_all
theorem Sl.els{α:Type}{enc:α->Value}(d:α){H:Heap}{v:Value}{l:List α}(h:Sl enc H v l)(hl:0<l.length):∃b o sp cap xs,v=.slice (some ⟨b,o,sp⟩) l.length cap/\H.get b=some xs/\(∀i,i<l.length->xs[o+i]?=some (enc (l.getD i d)))/\o+l.length<=xs.length:=by
 rcases h with ⟨rfl,rfl⟩|⟨b,o,sp,cap,xs,h1,h2,h3⟩
 ·simp at hl
 ·obtain⟨h3,hlen,_⟩:=h3
  refine⟨b,o,sp,cap,xs,h1,h2,fun i hi=>?_,hlen⟩;have e:((xs.drop o).take l.length)[i]?=(l.map enc)[i]?:=by rw[h3]
  grind
theorem Sl.ofOwn{α:Type}{enc:α->Value}{lo:Nat}{H:Heap}{v:Value}{b:Nat}{l:List α}(h:Own lo 1 H v b (l.map enc)):Sl enc H v l:=by
 obtain⟨_,⟨rfl,h⟩|⟨n,_,h1,rfl,h2⟩⟩:=h
 ·exact .inl ⟨rfl,by simpa using h⟩
 ·have:n=l.length:=by simp_all
  subst this;refine .inr ⟨b,0,some 1,_,_,rfl,h2,?_,by simp,.inr rfl,Nat.le_refl _⟩
  grind
theorem Sl.whole{α:Type}{enc:α->Value}{H:Heap}{b n:Nat}{sp:Option Nat}{l:List α}(h:H.get b=some (l.map enc))(hn:l.length=n)(hsp:sp=none\/sp=some 1:=by first|exact .inl rfl|exact .inr rfl):Sl enc H (.slice (some ⟨b,0,sp⟩) n n) l:=by
 subst hn;refine .inr ⟨b,0,sp,_,_,rfl,h,?_,by simp,hsp,Nat.le_refl _⟩
 grind[List.take_of_length_le]
theorem sS{B:Nat}{H:Heap}:∀(n:Nat) (c:List Value),HasN (Has B H .bool) n c->∃l:List Bool,l.length=n/\c=l.map Value.bool
 | 0,c,h=>by simp only[HasN]at h;subst h;exact⟨[],rfl,rfl⟩
 | n+1,c,h=>by
  simp only[HasN]at h;obtain⟨a,b,rfl,ha,hb⟩:=h;obtain⟨l,h1,rfl⟩:=sS n b hb;simp only[Has]at ha;obtain⟨x,rfl⟩:=ha;exact⟨x::l,by simp[h1],rfl⟩
theorem Fc{B:Nat}{H:Heap}{v:Value}(h:Has B H (.sl .bool) [v]):∃l:List Bool,Sl Value.bool H v l/\l.length<=B:=by
 simp only[Has]at h;rcases h with h|⟨i,len,cap,c,h1,h2,h3,h4,h5,h6⟩
 ·cases h
  exact⟨[],.inl ⟨rfl,rfl⟩,by simp⟩
 ·cases h1
  obtain⟨xs,hl,rfl⟩:=sS (B:=B) (H:=H) _ _ h6;have hlen:(xs.take len).length=len:=by simp;omega
  exact⟨xs.take len,.inr ⟨i,0,none,cap,_,by rw[hlen],h5,by rw[List.drop_zero,hlen,List.map_take],by simp;omega,.inl rfl,by simp;omega⟩,byO⟩
section
variable {cp:FuncId->Option CF}{lo:Nat}{l:List (Nat×E)}{chk:List E}{pc:PC}{dst:Option Nat}{o:HOp}{a:E}{Q:bz}{S S':List Value}{H H':Heap}{vs:List (Nat×Value)}{xs:List Value}{v:Value}
theorem KH(h:evSets S H l=some vs)(hc:evChk S H chk=true)(hp:holds S H pc=some true)(ha:ev S H a=some xs)(k:wpH cp lo o xs H fun v H'=>Q .normal (setD (setAll S vs) dst v) H'):wpS cp lo (.hv l chk pc dst o a) Q S H:=
 bP h hc hp (fun _=>⟨xs,ha,k⟩) (fun h=>by cases h)
end
abbrev SlI:=Sl (Value.int .i64)
abbrev SlB:=Sl Value.bool
open Go.RowKit Go.ChangeShapes Go.WideShapes
section
variable {P:Program}{w W:World}{X:Type}{enc:TypeId×Value->X}
end
def Sub(c1 c2:FuncId->Option CF):Prop:=∀f cf,c1 f=some cf->c2 f=some cf
theorem rG{c1 c2:FuncId->Option CF}(hs:Sub c1 c2){a b:CallR}(hc:CLeR a b){lo n:Nat}{g:FuncId}{args:List Value}{rv:Value}{H H':Heap}(h:mF c1 a lo n g args rv H=some H'):mF c2 b lo n g args rv H=some H':=by
 have h1:=zl (cp:=c1) hc (Nat.le_refl n) h;unfold mF at h1 ⊢;cases hg:c1 g with
 | none=>simp_all
 | some cg=>rw[hs g cg hg];simp_all
theorem zm{c1 c2:FuncId->Option CF}(hs:Sub c1 c2):∀n,CLeR (run c1 n) (run c2 n)
 | 0=>fun _ _ _ _ _ h=>by simp[run]at h
 | n+1=>fun lo f args H r h=>by
  have ih:=zm hs n;simp only[run]at h ⊢;cases hf:c1 f with
  | none=>rw[hf]at h;simp at h
  | some cf=>
  rw[hs f cf hf];rw[hf]at h;simp only at h ⊢;split at h<;>try (simp at h;done)
  rename_i hl;simp only[hl,if_true];split at h
  ·split at h
   ·rename_i S1 H1 h1
    rw[cM ih (Nat.le_refl n) _ _ _ _ h1];exact h
   ·rename_i S1 H1 h1
    rw[cM ih (Nat.le_refl n) _ _ _ _ h1];exact h
   ·rename_i j q S1 H1 h1
    rw[cM ih (Nat.le_refl n) _ _ _ _ h1];exact h
   ·simp at h
  ·have h1:=zk (cp:=c1) ih (Nat.le_refl n) h
   unfold kA at h1 ⊢;split at h1
   ·exact h1
   ·exact h1
   ·split at h1<;>try (simp at h1;done)
    split at h1<;>try (simp at h1;done)
    split at h1
    ·split at h1<;>try (simp at h1;done)
     rename_i hrr;simp only[rG hs (fun _ _ _ _ _ h=>h) hrr];exact h1
    ·split at h1<;>try (simp at h1;done)
     rename_i hrr;simp only[rG hs (fun _ _ _ _ _ h=>h) hrr];exact h1
    ·split at h1<;>try (simp at h1;done)
     rename_i hi;split at h1<;>try (simp at h1;done)
     rename_i hrr;simp only[if_pos hi,rG hs (fun _ _ _ _ _ h=>h) hrr];exact h1
    ·simp at h1
   ·simp at h1
  ·simp at h
theorem Ev.sub{c1 c2:FuncId->Option CF}(hs:Sub c1 c2){lo:Nat}{f:FuncId}{args:List Value}{H:Heap}{R:Value->Heap->Prop}(h:Ev c1 lo f args H R):Ev c2 lo f args H R:=by
 obtain⟨N,v,H',h1,h2⟩:=h;exact⟨N,v,H',fun n hn=>zm hs n _ _ _ _ _ (h1 n hn),h2⟩
theorem He{P:Prop}(h:P:=by simp(disch:=try exact dO)only[evB, *]):P:=h
theorem rk{P:Prop}(h:P:=by simp(disch:=try exact dO)only[evB, *];rfl):P:=h
theorem SQ{cp:FuncId->Option CF}{lo:Nat}{l:List (Nat×E)}{chk:List E}{Q:bz}{S:List Value}{H:Heap}{vs:List (Nat×Value)}{S':List Value}(k:Q .normal S' H)(h:evSets S H l=some vs:=by exact rk)(hc:evChk S H chk=true:=by exact He)(hS:setAll S vs=S':=by exact rk):wpS cp lo (.sets l chk) Q S H:=my h hc hS k
theorem QG{cp:FuncId->Option CF}{lo:Nat}{l:List (Nat×E)}{chk:List E}{Q:bz}{S:List Value}{H:Heap}{vs:List (Nat×Value)}{dst:Option Nat}{o:HOp}{a:E}{xs:List Value}(k:wpH cp lo o xs H fun v H'=>Q .normal (setD (setAll S vs) dst v) H')(h:evSets S H l=some vs:=by exact rk)(hc:evChk S H chk=true:=by exact He)(ha:ev S H a=some xs:=by exact rk):wpS cp lo (.hv l chk [] dst o a) Q S H:=ru h hc ha k
theorem SK{cp:FuncId->Option CF}{lo:Nat}{l:List (Nat×E)}{chk:List E}{Q:bz}{S:List Value}{H:Heap}{vs:List (Nat×Value)}{dst:Option Nat}{o:HOp}{a:E}{xs:List Value}{S':List Value}{H':Heap}{v:Value}(hcall:o.isCall=false)(k:Q .normal S' H')(h:evSets S H l=some vs:=by exact rk)(hc:evChk S H chk=true:=by exact He)(ha:ev S H a=some xs:=by exact rk)(ho:dP lo o xs H=some (v,H'):=by exact rk)(hS:setD (setAll S vs) dst v=S':=by exact rk):wpS cp lo (.hv l chk [] dst o a) Q S H:=uy hcall h hc ha ho hS k
theorem Hb{cp:FuncId->Option CF}{lo:Nat}{c:E}{a b:Stm}{Q:bz}{S:List Value}{H:Heap}{t:Bool}(k1:t=true->wpS cp lo a Q S H)(k2:t=false->wpS cp lo b Q S H)(h:ev1 S H c=some (.bool t):=by exact rk):wpS cp lo (.cond c a b) Q S H:=lL h k1 k2
theorem oV{P Q:Prop}(k:Q)(h:Hdn Q->P:=by intro k;(try simp only[aB]);(repeat' ((first|refine SQ ?_|refine SK rfl ?_);(try simp only[aB])));exact k.out):P:=h ⟨k⟩
theorem FA{cf:CF}{R:Value->Heap->Prop}{S:List Value}{H:Heap}{vs:List Value}(k:R (aM vs) H)(h:evList S H cf.res=some vs:=by exact rk):eP cf R .ret S H:=kU h k
theorem Hc{P:Prop}(h:P:=by simp(disch:=try exact dO)only[evB,xtr, *]):P:=h
theorem jS{P:Prop}(h:P:=by simp(disch:=try exact dO)only[evB,xtr, *];rfl):P:=h
theorem SN{cp:FuncId->Option CF}{lo:Nat}{l:List (Nat×E)}{chk:List E}{Q:bz}{S:List Value}{H:Heap}{vs:List (Nat×Value)}{S':List Value}(k:Q .normal S' H)(h:evSets S H l=some vs:=by exact jS)(hc:evChk S H chk=true:=by exact Hc)(hS:setAll S vs=S':=by exact jS):wpS cp lo (.sets l chk) Q S H:=my h hc hS k
theorem dH{cp:FuncId->Option CF}{lo:Nat}{l:List (Nat×E)}{chk:List E}{Q:bz}{S:List Value}{H:Heap}{vs:List (Nat×Value)}{dst:Option Nat}{o:HOp}{a:E}{xs:List Value}(k:wpH cp lo o xs H fun v H'=>Q .normal (setD (setAll S vs) dst v) H')(h:evSets S H l=some vs:=by exact jS)(hc:evChk S H chk=true:=by exact Hc)(ha:ev S H a=some xs:=by exact jS):wpS cp lo (.hv l chk [] dst o a) Q S H:=ru h hc ha k
theorem SH{cp:FuncId->Option CF}{lo:Nat}{l:List (Nat×E)}{chk:List E}{Q:bz}{S:List Value}{H:Heap}{vs:List (Nat×Value)}{dst:Option Nat}{o:HOp}{a:E}{xs:List Value}{S':List Value}{H':Heap}{v:Value}(hcall:o.isCall=false)(k:Q .normal S' H')(h:evSets S H l=some vs:=by exact jS)(hc:evChk S H chk=true:=by exact Hc)(ha:ev S H a=some xs:=by exact jS)(ho:dP lo o xs H=some (v,H'):=by exact jS)(hS:setD (setAll S vs) dst v=S':=by exact jS):wpS cp lo (.hv l chk [] dst o a) Q S H:=uy hcall h hc ha ho hS k
theorem cJ{cp:FuncId->Option CF}{lo:Nat}{c:E}{a b:Stm}{Q:bz}{S:List Value}{H:Heap}{t:Bool}(k1:t=true->wpS cp lo a Q S H)(k2:t=false->wpS cp lo b Q S H)(h:ev1 S H c=some (.bool t):=by exact jS):wpS cp lo (.cond c a b) Q S H:=lL h k1 k2
theorem aU{P Q:Prop}(k:Q)(h:Hdn Q->P:=by intro k;(try simp only[aB]);(repeat' ((first|refine SN ?_|refine SH rfl ?_);(try simp only[aB])));exact k.out):P:=h ⟨k⟩
theorem dU{cf:CF}{R:Value->Heap->Prop}{S:List Value}{H:Heap}{vs:List Value}(k:R (aM vs) H)(h:evList S H cf.res=some vs:=by exact jS):eP cf R .ret S H:=kU h k
theorem gZ{P:Prop}(h:P:=by simp(disch:=try exact dO)only[evB,xtr,Nat.reduceAdd,Nat.reduceBEq, *]):P:=h
theorem aW{P:Prop}(h:P:=by simp(disch:=try exact dO)only[evB,xtr,Nat.reduceAdd,Nat.reduceBEq, *];rfl):P:=h
theorem nh{P:Prop}(h:P:=by simp(disch:=try exact dO)only[evB,xtr,Nat.reduceAdd,Nat.reduceBEq, *];try rfl):P:=h
theorem QM{cp:FuncId->Option CF}{lo:Nat}{l:List (Nat×E)}{chk:List E}{Q:bz}{S:List Value}{H:Heap}{vs:List (Nat×Value)}{S':List Value}(k:Q .normal S' H)(h:evSets S H l=some vs:=by exact aW)(hc:evChk S H chk=true:=by exact gZ)(hS:setAll S vs=S':=by exact aW):wpS cp lo (.sets l chk) Q S H:=my h hc hS k
theorem aQ{cp:FuncId->Option CF}{lo:Nat}{l:List (Nat×E)}{chk:List E}{Q:bz}{S:List Value}{H:Heap}{vs:List (Nat×Value)}{dst:Option Nat}{o:HOp}{a:E}{xs:List Value}(k:wpH cp lo o xs H fun v H'=>Q .normal (setD (setAll S vs) dst v) H')(h:evSets S H l=some vs:=by exact aW)(hc:evChk S H chk=true:=by exact gZ)(ha:ev S H a=some xs:=by exact aW):wpS cp lo (.hv l chk [] dst o a) Q S H:=ru h hc ha k
theorem QJ{cp:FuncId->Option CF}{lo:Nat}{l:List (Nat×E)}{chk:List E}{Q:bz}{S:List Value}{H:Heap}{vs:List (Nat×Value)}{dst:Option Nat}{o:HOp}{a:E}{xs:List Value}{S':List Value}{H':Heap}{v:Value}(hcall:o.isCall=false)(k:Q .normal S' H')(h:evSets S H l=some vs:=by exact aW)(hc:evChk S H chk=true:=by exact gZ)(ha:ev S H a=some xs:=by exact aW)(ho:dP lo o xs H=some (v,H'):=by exact aW)(hS:setD (setAll S vs) dst v=S':=by exact aW):wpS cp lo (.hv l chk [] dst o a) Q S H:=uy hcall h hc ha ho hS k
theorem aS{cp:FuncId->Option CF}{lo:Nat}{c:E}{a b:Stm}{Q:bz}{S:List Value}{H:Heap}{t:Bool}(k1:t=true->wpS cp lo a Q S H)(k2:t=false->wpS cp lo b Q S H)(h:ev1 S H c=some (.bool t):=by exact aW):wpS cp lo (.cond c a b) Q S H:=lL h k1 k2
theorem aC{P Q:Prop}(k:Q)(h:Hdn Q->P:=by intro k;(try simp only[aB]);(repeat' ((first|refine QM ?_|refine QJ rfl ?_);(try simp only[aB])));exact k.out):P:=h ⟨k⟩
theorem aT{cf:CF}{R:Value->Heap->Prop}{S:List Value}{H:Heap}{vs:List Value}(k:R (aM vs) H)(h:evList S H cf.res=some vs:=by exact aW):eP cf R .ret S H:=kU h k
theorem Me{P:Prop}(h:P:=by simp(disch:=try exact dO)only[evB,xtr,Nat.reduceAdd,Nat.reduceBEq,Int.reduceToNat, *]):P:=h
theorem rj{P:Prop}(h:P:=by simp(disch:=try exact dO)only[evB,xtr,Nat.reduceAdd,Nat.reduceBEq,Int.reduceToNat, *];rfl):P:=h
theorem SO{cp:FuncId->Option CF}{lo:Nat}{l:List (Nat×E)}{chk:List E}{Q:bz}{S:List Value}{H:Heap}{vs:List (Nat×Value)}{S':List Value}(k:Q .normal S' H)(h:evSets S H l=some vs:=by exact rj)(hc:evChk S H chk=true:=by exact Me)(hS:setAll S vs=S':=by exact rj):wpS cp lo (.sets l chk) Q S H:=my h hc hS k
theorem dh{cp:FuncId->Option CF}{lo:Nat}{l:List (Nat×E)}{chk:List E}{Q:bz}{S:List Value}{H:Heap}{vs:List (Nat×Value)}{dst:Option Nat}{o:HOp}{a:E}{xs:List Value}(k:wpH cp lo o xs H fun v H'=>Q .normal (setD (setAll S vs) dst v) H')(h:evSets S H l=some vs:=by exact rj)(hc:evChk S H chk=true:=by exact Me)(ha:ev S H a=some xs:=by exact rj):wpS cp lo (.hv l chk [] dst o a) Q S H:=ru h hc ha k
theorem SI{cp:FuncId->Option CF}{lo:Nat}{l:List (Nat×E)}{chk:List E}{Q:bz}{S:List Value}{H:Heap}{vs:List (Nat×Value)}{dst:Option Nat}{o:HOp}{a:E}{xs:List Value}{S':List Value}{H':Heap}{v:Value}(hcall:o.isCall=false)(k:Q .normal S' H')(h:evSets S H l=some vs:=by exact rj)(hc:evChk S H chk=true:=by exact Me)(ha:ev S H a=some xs:=by exact rj)(ho:dP lo o xs H=some (v,H'):=by exact rj)(hS:setD (setAll S vs) dst v=S':=by exact rj):wpS cp lo (.hv l chk [] dst o a) Q S H:=uy hcall h hc ha ho hS k
theorem aP{cp:FuncId->Option CF}{lo:Nat}{c:E}{a b:Stm}{Q:bz}{S:List Value}{H:Heap}{t:Bool}(k1:t=true->wpS cp lo a Q S H)(k2:t=false->wpS cp lo b Q S H)(h:ev1 S H c=some (.bool t):=by exact rj):wpS cp lo (.cond c a b) Q S H:=lL h k1 k2
theorem aL{P Q:Prop}(k:Q)(h:Hdn Q->P:=by intro k;(try simp only[aB]);(repeat' ((first|refine SO ?_|refine SI rfl ?_);(try simp only[aB])));exact k.out):P:=h ⟨k⟩
theorem bM{cf:CF}{R:Value->Heap->Prop}{S:List Value}{H:Heap}{vs:List Value}(k:R (aM vs) H)(h:evList S H cf.res=some vs:=by exact rj):eP cf R .ret S H:=kU h k
theorem Hd{P:Prop}(h:P:=by simp(disch:=try exact dO)only[evB,xtr,Nat.reduceAdd,Nat.reduceMul,Nat.reduceBEq,Int.reduceToNat,Int.reduceEq,Int.reduceNe, *]):P:=h
theorem pH{P:Prop}(h:P:=by simp(disch:=try exact dO)only[evB,xtr,Nat.reduceAdd,Nat.reduceMul,Nat.reduceBEq,Int.reduceToNat,Int.reduceEq,Int.reduceNe, *];rfl):P:=h
theorem SG{P:Prop}(h:P:=by simp(disch:=try exact dO)only[evB,xtr,Nat.reduceAdd,Nat.reduceMul,Nat.reduceBEq,Int.reduceToNat,Int.reduceEq,Int.reduceNe, *];try rfl):P:=h
theorem SP{cp:FuncId->Option CF}{lo:Nat}{l:List (Nat×E)}{chk:List E}{Q:bz}{S:List Value}{H:Heap}{vs:List (Nat×Value)}{S':List Value}(k:Q .normal S' H)(h:evSets S H l=some vs:=by exact pH)(hc:evChk S H chk=true:=by exact Hd)(hS:setAll S vs=S':=by exact pH):wpS cp lo (.sets l chk) Q S H:=my h hc hS k
theorem uu{cp:FuncId->Option CF}{lo:Nat}{l:List (Nat×E)}{chk:List E}{Q:bz}{S:List Value}{H:Heap}{vs:List (Nat×Value)}{dst:Option Nat}{o:HOp}{a:E}{xs:List Value}(k:wpH cp lo o xs H fun v H'=>Q .normal (setD (setAll S vs) dst v) H')(h:evSets S H l=some vs:=by exact pH)(hc:evChk S H chk=true:=by exact Hd)(ha:ev S H a=some xs:=by exact pH):wpS cp lo (.hv l chk [] dst o a) Q S H:=ru h hc ha k
theorem SJ{cp:FuncId->Option CF}{lo:Nat}{l:List (Nat×E)}{chk:List E}{Q:bz}{S:List Value}{H:Heap}{vs:List (Nat×Value)}{dst:Option Nat}{o:HOp}{a:E}{xs:List Value}{S':List Value}{H':Heap}{v:Value}(hcall:o.isCall=false)(k:Q .normal S' H')(h:evSets S H l=some vs:=by exact pH)(hc:evChk S H chk=true:=by exact Hd)(ha:ev S H a=some xs:=by exact pH)(ho:dP lo o xs H=some (v,H'):=by exact pH)(hS:setD (setAll S vs) dst v=S':=by exact pH):wpS cp lo (.hv l chk [] dst o a) Q S H:=uy hcall h hc ha ho hS k
theorem oU{cp:FuncId->Option CF}{lo:Nat}{c:E}{a b:Stm}{Q:bz}{S:List Value}{H:Heap}{t:Bool}(k1:t=true->wpS cp lo a Q S H)(k2:t=false->wpS cp lo b Q S H)(h:ev1 S H c=some (.bool t):=by exact pH):wpS cp lo (.cond c a b) Q S H:=lL h k1 k2
theorem iy{P Q:Prop}(k:Q)(h:Hdn Q->P:=by intro k;(try simp only[aB]);(repeat' ((first|refine SP ?_|refine SJ rfl ?_);(try simp only[aB])));exact k.out):P:=h ⟨k⟩
theorem SR{cp:FuncId->Option CF}{lo:Nat}{l:List (Nat×E)}{chk:List E}{Q:bz}{S:List Value}{H:Heap}{vs:List (Nat×Value)}{dst:Option Nat}{o:HOp}{a:E}{xs:List Value}{pc:PC}(k:wpH cp lo o xs H fun v H'=>Q .normal (setD (setAll S vs) dst v) H')(h:evSets S H l=some vs:=by exact pH)(hc:evChk S H chk=true:=by exact Hd)(hp:holds S H pc=some true:=by exact SG)(ha:ev S H a=some xs:=by exact pH):wpS cp lo (.hv l chk pc dst o a) Q S H:=KH h hc hp ha k
theorem rl{cf:CF}{R:Value->Heap->Prop}{S:List Value}{H:Heap}{vs:List Value}(k:R (aM vs) H)(h:evList S H cf.res=some vs:=by exact pH):eP cf R .ret S H:=kU h k
theorem aR{S:List Value}{F:(Nat->Value)->List Value}(h:S=F (fun k=>S.getD k undef)):∃z,S=F z:=⟨_,h⟩
end Go.Abs
