/- Lemmas. -/
import Derived.Test.YtmnlgdpdgjbfgaaGreatF8
import Derived.LaidSub
set_option linter.all false
namespace Go.Abs
structure Keep (b:Nat)(H H':Heap):Prop where
 len:H.length<=H'.length
 eq:∀i,i<H.length->i≠b->H'.get i=H.get i
theorem Keep.get{b:Nat}{H H':Heap}(h:Keep b H H'){i:Nat}{c:List Value}(d:H.get i=some c)(a:i≠b):H'.get i=some c:=(h.eq i (Heap.get_lt d) a).trans d
theorem Keep.ext{b:Nat}{A H H':Heap}(h:Keep b H H')(e:Ext A H)(c:A.length<=b):Ext A H':=⟨Nat.le_trans e.1 h.len,λi a=>(h.eq i (bd₀ a e.1) byO).trans<|e.2 i a⟩
def Own(lo sz:Nat)(H:Heap)(v:Value)(b:Nat)(cells:List Value):Prop:=
 lo<=b/\((v=.slice none 0 0/\cells=[])\/∃n,0<n/\n*sz=cells.length/\v=.slice (some ⟨b,0,some sz⟩) n n/\H.get b=some cells)
theorem Own.nil{lo sz:Nat}{H:Heap}{b:Nat}(h:lo<=b):Own lo sz H (.slice none 0 0) b []:=⟨h,.inl ⟨rfl,rfl⟩⟩
theorem Own.mono{lo sz b:Nat}{H H':Heap}{v:Value}{c:List Value}(h:Own lo sz H v b c)(e:Ext H H'):Own lo sz H' v b c:=by
 obtain⟨f,h|⟨n,a,b,c,d⟩⟩:=h
 .exact⟨f,.inl h⟩
 .exact⟨f,.inr ⟨n,a,b,c,e.get d⟩⟩
theorem Own.lower{lo a sz b:Nat}{H:Heap}{v:Value}{c:List Value}(h:Own lo sz H v b c)(e:a<=lo):Own a sz H v b c:=⟨Nat.le_trans e h.1,h.2⟩
theorem Own.keep{lo sz b g:Nat}{H H':Heap}{v:Value}{c:List Value}(h:Own lo sz H v b c)(e:Keep g H H')(f:b≠g):Own lo sz H' v b c:=by
 obtain⟨i,h|⟨n,a,b,c,d⟩⟩:=h
 .exact⟨i,.inl h⟩
 .exact⟨i,.inr ⟨n,a,b,c,e.get d f⟩⟩
theorem Own.len{lo sz b:Nat}{H:Heap}{v:Value}{c:List Value}(h:Own lo sz H v b c)(e:0<sz):∃a n,v=.slice a n n/\n*sz=c.length/\n<=c.length:=by
 obtain⟨f,⟨rfl,rfl⟩|⟨n,a,b,rfl,d⟩⟩:=h
 .simp_all
 .exact⟨_,_,rfl,b,by rw[<-b];exact Nat.le_mul_of_pos_right n e⟩
section
variable {cp:FuncId->Option CF}{lo:Nat}
theorem di{sz:Nat}{z:List Value}{H:Heap}{v:Value}{b:Nat}{cells c c':List Value}{t o n m:Nat}{sp:Option Nat}{R:Value->Heap->Prop}(C:Own lo sz H v b cells)(f:lo<=H.length)(h:0<sz)(g:0<n)(l:cells.length+n<=4294967296)(r:H.get t=some c')(a:o+n*sz<=c'.length)(p:(c'.drop o).take (n*sz)=c)(j:oneCells c=true)
  (k:∀s H',Own lo sz H' s H.length (cells++c)->Keep b H H'->H'.length=H.length+1->R s H'):wpH cp lo (.app sz z) [v,.slice (some ⟨t,o,sp⟩) n m] H R:=by
 have w:c.length=n*sz:=by grind
 obtain⟨u,⟨rfl,rfl⟩|⟨len,y,d,rfl,x⟩⟩:=C
 .have e:=rz (lo:=lo) (H:=H) (sz:=sz) (z:=z) (i:=t) (o:=o) (n:=n) (m:=m) (sp:=sp) ⟨g,byO⟩
  rw[r]at e;simp[a,p,j]at e;simp[wpH];rw[e];refine k _ _ ⟨f,.inr ⟨n,g,by simp_all,rfl,by grind[aF]⟩⟩ ⟨by simp,λi q _=>aV q⟩ (by simp)
 .have A:len<=cells.length:=by rw[<-d];exact Nat.le_mul_of_pos_right len h
  have e:=uO (lo:=lo) (H:=H) (sz:=sz) (z:=z) (b:=b) (o:=0) (len:=len) (i:=t) (o':=o) (n:=n) (m:=m) (sp:=sp) u ⟨g,byO⟩;rw[r,x]at e;simp[a,p,j,Nat.zero_add,d,Nat.le_refl]at e;simp[wpH];rw[e];refine k _ _ ⟨f,.inr ⟨len+n,byO,by grind,rfl,?_⟩⟩ ⟨by simp,λi q B=>?_⟩ (by simp)
  all_goals grind[aF,aV,aI]
theorem aS{id d:Nat}{c:E}{a e:Stm}{Q:bI}{S:List Value}{H:Heap}(I:Nat->List Value->Heap->Prop)(N:Nat)(o:I 0 S H)
  (q:∀k S H,k<=N->I k S H->∃t,ev1 S H c=some (.bool t)/\(t=true↔k<N))
  (p:∀k S H,k<N->I k S H->wpS cp lo (.block d a) (wZ cp lo e<|DN (I<|k+1)<|iw id Q) S H)
  (u:∀S H,I N S H->Q .normal S H):wpS cp lo (.loop<|.seq (.cond c .skip<|.exit id)<|.seq (.block d a) e) (iw id Q) S H:=by
 apply aY (λm S H=>∃k,k<=N/\m=N-k/\I k S H) N ⟨0,byO,byO,o⟩;rintro m S H ⟨k,r,rfl,l⟩;rw[lI];have⟨t,s,b⟩:=q k S H r l;apply iP s<;>intro h
 .have g:=b.1 h
  rw[Av,HD,lI];refine(p k S H g l).mono ?_;intro f n H' j;cases f with
  | normal=>
   apply j.mono;intro f n H' j;cases f with
   | normal=>exact⟨N-(k+1),byO,k+1,byO,rfl,j⟩
   | exit i=>assumption
   | ret=>assumption
  | exit i=>assumption
  | ret=>assumption
 .show iw id Q (.exit id) S H
  grind[nv]
end
def Sl{α:Type}(enc:α->Value)(H:Heap)(v:Value)(l:List α):Prop:=
 (v=.slice none 0 0/\l=[])\/∃b o sp cap xs,v=.slice (some ⟨b,o,sp⟩) l.length cap/\H.get b=some xs/\(xs.drop o).take l.length=l.map enc/\o+l.length<=xs.length/\(sp=none\/sp=some 1)/\l.length<=cap
theorem Sl.mono{a:Type}{enc:a->Value}{H H':Heap}{v:Value}{l:List a}(h:Sl enc H v l)(e:Ext H H'):Sl enc H' v l:=by
 rcases h with h|⟨b,o,sp,cap,xs,c,d,f⟩
 .exact .inl h
 .exact .inr ⟨b,o,sp,cap,xs,c,e.get d,f⟩
theorem Sl.len{d:Type}{enc:d->Value}{H:Heap}{v:Value}{l:List d}(h:Sl enc H v l):∃a c,v=.slice a l.length c:=by
 rcases h with ⟨rfl,rfl⟩|⟨b,o,sp,cap,xs,e,_⟩
 all_goals simp_all
theorem Sl.els{f:Type}{enc:f->Value}(d:f){H:Heap}{v:Value}{l:List f}(h:Sl enc H v l)(k:0<l.length):∃b o sp cap xs,v=.slice (some ⟨b,o,sp⟩) l.length cap/\H.get b=some xs/\(∀i,i<l.length->xs[o+i]?=some (enc<|l.getD i d))/\o+l.length<=xs.length:=by
 rcases h with ⟨rfl,rfl⟩|⟨b,o,sp,cap,xs,g,j,c⟩
 .simp at k
 .have⟨c,a,_⟩:=c
  refine⟨b,o,sp,cap,xs,g,j,λi m=>?_,a⟩;have e:((xs.drop o).take l.length)[i]?=(l.map enc)[i]?:=by rw[c]
  grind
theorem Sl.ofOwn{a:Type}{enc:a->Value}{lo:Nat}{H:Heap}{v:Value}{b:Nat}{l:List a}(h:Own lo 1 H v b<|l.map enc):Sl enc H v l:=by
 obtain⟨_,⟨rfl,h⟩|⟨n,_,d,rfl,c⟩⟩:=h
 .exact .inl ⟨rfl,by simpa using h⟩
 .have:n=l.length:=by simp_all
  subst this;refine .inr ⟨b,0,some 1,_,_,rfl,c,?_,by simp,.inr rfl,Nat.le_refl _⟩
  grind
theorem Sl.whole{c:Type}{enc:c->Value}{H:Heap}{b n:Nat}{sp:Option Nat}{l:List c}(h:H.get b=some (l.map enc))(d:l.length=n)(a:sp=none\/sp=some 1:=by first|exact .inl rfl|exact .inr rfl):Sl enc H (.slice (some ⟨b,0,sp⟩) n n) l:=by
 subst d;refine .inr ⟨b,0,sp,_,_,rfl,h,?_,by simp,a,Nat.le_refl _⟩
 grind[List.take_of_length_le]
theorem xy{B:Nat}{H:Heap}{k:IntKind}:∀(n:Nat) (c:List Value),HasN (Has B H<|.int k) n c->∃l:List Int,l.length=n/\c=l.map (Value.int k)/\∀x ∈ l,k.min<=x/\x<=k.max
 | 0,c,h=>by simp_all[HasN]
 | n+1,c,h=>by
  obtain⟨a,b,rfl,e,f⟩:=h;obtain⟨l,d,rfl,g⟩:=xy n b f;obtain⟨x,rfl,i⟩:=e;refine⟨x::l,by simp[d],rfl,?_⟩
  simp_all
section
variable {cp:FuncId->Option CF}{lo:Nat}{l:List (Nat×E)}{chk:List E}{pc:PC}{dst:Option Nat}{o:HOp}{a:E}{Q:bI}{S S':List Value}{H H':Heap}{vs:List (Nat×Value)}{xs:List Value}{v:Value}
theorem Mu(h:evSets S H l=some vs)(c:evChk S H chk=true)(d:holds S H pc=some true)(b:ev S H a=some xs)(k:wpH cp lo o xs H λv H'=>Q .normal (setD (setAll S vs) dst v) H'):wpS cp lo (.hv l chk pc dst o a) Q S H:=
 aU h c d (λ_=>⟨xs,b,k⟩) (λh=>by cases h)
end
abbrev SlI:=Sl<|Value.int .i64
abbrev SlB:=Sl Value.bool
open Go.RowKit Go.ChangeShapes Go.WideShapes
def Sub(c1 c2:FuncId->Option CF):Prop:=∀f cf,c1 f=some cf->c2 f=some cf
theorem sn{c c2:FuncId->Option CF}(k:Sub c c2){a b:CallR}(i:CLeR a b){lo n:Nat}{g:FuncId}{args:List Value}{d:Value}{H H':Heap}(h:mg c a lo n g args d H=some H'):mg c2 b lo n g args d H=some H':=by
 have f:=CE (cp:=c) i (Nat.le_refl n) h;unfold mg at f ⊢;cases j:c g with
 | none=>simp_all
 | some e=>rw[k g e j];simp_all
theorem CH{d c2:FuncId->Option CF}(c:Sub d c2):∀n,CLeR (run d n)<|run c2 n
 | 0=>λ_ _ _ _ _ h=>by simp[run]at h
 | n+1=>λlo f args H r h=>by
  have e:=CH c n;simp[run]at h ⊢;cases g:d f with
  | none=>rw[g]at h;simp at h
  | some cf=>
  rw[c f cf g];rw[g]at h;simp only at h ⊢;split at h<;>try (simp at h;done)
  rename_i m;simp[m,if_true];split at h
  .split at h
   next k i a=>
    rw[cH e (Nat.le_refl n) _ _ _ _ a];exact h
   next k i a=>
    rw[cH e (Nat.le_refl n) _ _ _ _ a];exact h
   next j q k i a=>
    rw[cH e (Nat.le_refl n) _ _ _ _ a];exact h
   .simp at h
  .have a:=CD (cp:=d) e (Nat.le_refl n) h
   unfold kp at a ⊢;split at a
   .exact a
   .exact a
   .split at a<;>try (simp at a;done)
    split at a<;>try (simp at a;done)
    split at a
    .split at a<;>try (simp at a;done)
     rename_i b;simp[sn c (λ_ _ _ _ _ h=>h) b];exact a
    .split at a<;>try (simp at a;done)
     rename_i b;simp[sn c (λ_ _ _ _ _ h=>h) b];exact a
    .split at a<;>try (simp at a;done)
     rename_i l;split at a<;>try (simp at a;done)
     rename_i b;simp[if_pos l,sn c (λ_ _ _ _ _ h=>h) b];exact a
    .simp at a
   .simp at a
  .simp at h
theorem Ev.sub{a c2:FuncId->Option CF}(e:Sub a c2){lo:Nat}{f:FuncId}{args:List Value}{H:Heap}{R:Value->Heap->Prop}(h:Ev a lo f args H R):Ev c2 lo f args H R:=by have⟨N,v,H',b,c⟩:=h;exact⟨N,v,H',λn d=>CH e n _ _ _ _ _<|b n d,c⟩
theorem K1{P:Prop}(h:P:=by simp(disch:=try exact dO)only[evB, *]):P:=h
theorem tZ{P:Prop}(h:P:=by simp(disch:=try exact dO)only[evB, *];rfl):P:=h
theorem V9{cp:FuncId->Option CF}{lo:Nat}{l:List<|Nat×E}{a:List E}{Q:bI}{S:List Value}{H:Heap}{vs:List<|Nat×Value}{b:List Value}(k:Q .normal b H)(h:evSets S H l=some vs:=by exact tZ)(d:evChk S H a=true:=by exact K1)(c:setAll S vs=b:=by exact tZ):wpS cp lo (.sets l a) Q S H:=nj h d c k
theorem Ta{cp:FuncId->Option CF}{lo:Nat}{l:List<|Nat×E}{b:List E}{Q:bI}{S:List Value}{H:Heap}{vs:List<|Nat×Value}{dst:Option Nat}{o:HOp}{a:E}{xs:List Value}(k:wpH cp lo o xs H λv H'=>Q .normal (setD (setAll S vs) dst v) H')(h:evSets S H l=some vs:=by exact tZ)(d:evChk S H b=true:=by exact K1)(c:ev S H a=some xs:=by exact tZ):wpS cp lo (.hv l b [] dst o a) Q S H:=xA h d c k
theorem V2{cp:FuncId->Option CF}{lo:Nat}{l:List<|Nat×E}{c:List E}{Q:bI}{S:List Value}{H:Heap}{vs:List<|Nat×Value}{dst:Option Nat}{o:HOp}{a:E}{xs:List Value}{d:List Value}{H':Heap}{v:Value}(b:o.isCall=false)(k:Q .normal d H')(h:evSets S H l=some vs:=by exact tZ)(g:evChk S H c=true:=by exact K1)(f:ev S H a=some xs:=by exact tZ)(i:cK lo o xs H=some (v,H'):=by exact tZ)(e:setD (setAll S vs) dst v=d:=by exact tZ):wpS cp lo (.hv l c [] dst o a) Q S H:=xB b h g f i e k
theorem KY{cp:FuncId->Option CF}{lo:Nat}{c:E}{a b:Stm}{Q:bI}{S:List Value}{H:Heap}{t:Bool}(d:t=true->wpS cp lo a Q S H)(e:t=false->wpS cp lo b Q S H)(h:ev1 S H c=some (.bool t):=by exact tZ):wpS cp lo (.cond c a b) Q S H:=iP h d e
theorem py{P Q:Prop}(k:Q)(h:Hdn Q->P:=by intro k;(try simp only[aD]);(repeat' ((first|refine V9 ?_|refine V2 rfl ?_);(try simp only[aD])));exact k.out):P:=h ⟨k⟩
theorem Ho{cf:CF}{R:Value->Heap->Prop}{S:List Value}{H:Heap}{vs:List Value}(k:R (aM vs) H)(h:evList S H cf.res=some vs:=by exact tZ):jk cf R .ret S H:=jl h k
theorem KZ{P:Prop}(h:P:=by simp(disch:=try exact dO)only[evB,xtr, *]):P:=h
theorem tY{P:Prop}(h:P:=by simp(disch:=try exact dO)only[evB,xtr, *];rfl):P:=h
theorem VX{P:Prop}(h:P:=by simp(disch:=try exact dO)only[evB,xtr, *];try rfl):P:=h
theorem V5{cp:FuncId->Option CF}{lo:Nat}{l:List<|Nat×E}{a:List E}{Q:bI}{S:List Value}{H:Heap}{vs:List<|Nat×Value}{b:List Value}(k:Q .normal b H)(h:evSets S H l=some vs:=by exact tY)(d:evChk S H a=true:=by exact KZ)(c:setAll S vs=b:=by exact tY):wpS cp lo (.sets l a) Q S H:=nj h d c k
theorem Pm{cp:FuncId->Option CF}{lo:Nat}{l:List<|Nat×E}{b:List E}{Q:bI}{S:List Value}{H:Heap}{vs:List<|Nat×Value}{dst:Option Nat}{o:HOp}{a:E}{xs:List Value}(k:wpH cp lo o xs H λv H'=>Q .normal (setD (setAll S vs) dst v) H')(h:evSets S H l=some vs:=by exact tY)(d:evChk S H b=true:=by exact KZ)(c:ev S H a=some xs:=by exact tY):wpS cp lo (.hv l b [] dst o a) Q S H:=xA h d c k
theorem VY{cp:FuncId->Option CF}{lo:Nat}{l:List<|Nat×E}{c:List E}{Q:bI}{S:List Value}{H:Heap}{vs:List<|Nat×Value}{dst:Option Nat}{o:HOp}{a:E}{xs:List Value}{d:List Value}{H':Heap}{v:Value}(b:o.isCall=false)(k:Q .normal d H')(h:evSets S H l=some vs:=by exact tY)(g:evChk S H c=true:=by exact KZ)(f:ev S H a=some xs:=by exact tY)(i:cK lo o xs H=some (v,H'):=by exact tY)(e:setD (setAll S vs) dst v=d:=by exact tY):wpS cp lo (.hv l c [] dst o a) Q S H:=xB b h g f i e k
theorem mh{cp:FuncId->Option CF}{lo:Nat}{c:E}{a b:Stm}{Q:bI}{S:List Value}{H:Heap}{t:Bool}(d:t=true->wpS cp lo a Q S H)(e:t=false->wpS cp lo b Q S H)(h:ev1 S H c=some (.bool t):=by exact tY):wpS cp lo (.cond c a b) Q S H:=iP h d e
theorem Ti{cp:FuncId->Option CF}{lo:Nat}{c:E}{a b:Stm}{Q:bI}{S:List Value}{H:Heap}(k:wpS cp lo b Q S H)(h:ev1 S H c=some (.bool false):=by exact VX):wpS cp lo (.cond c a b) Q S H:=iP h nofun λ_=>k
theorem eP{P Q:Prop}(k:Q)(h:Hdn Q->P:=by intro k;(try simp only[aD]);(repeat' ((first|refine V5 ?_|refine VY rfl ?_);(try simp only[aD])));exact k.out):P:=h ⟨k⟩
theorem n9{P Q:Prop}(k:Q)(h:Hdn Q->P:=by intro k;(try simp only[aD]);refine Pm ?_;exact k.out):P:=h ⟨k⟩
theorem qY{cf:CF}{R:Value->Heap->Prop}{S:List Value}{H:Heap}{vs:List Value}(k:R (aM vs) H)(h:evList S H cf.res=some vs:=by exact tY):jk cf R .ret S H:=jl h k
theorem T9{P:Prop}(h:P:=by simp(disch:=try exact dO)only[evB,xtr,Nat.reduceAdd,Nat.reduceBEq, *]):P:=h
theorem Ao{P:Prop}(h:P:=by simp(disch:=try exact dO)only[evB,xtr,Nat.reduceAdd,Nat.reduceBEq, *];rfl):P:=h
theorem V6{cp:FuncId->Option CF}{lo:Nat}{l:List<|Nat×E}{a:List E}{Q:bI}{S:List Value}{H:Heap}{vs:List<|Nat×Value}{b:List Value}(k:Q .normal b H)(h:evSets S H l=some vs:=by exact Ao)(d:evChk S H a=true:=by exact T9)(c:setAll S vs=b:=by exact Ao):wpS cp lo (.sets l a) Q S H:=nj h d c k
theorem VZ{cp:FuncId->Option CF}{lo:Nat}{l:List<|Nat×E}{c:List E}{Q:bI}{S:List Value}{H:Heap}{vs:List<|Nat×Value}{dst:Option Nat}{o:HOp}{a:E}{xs:List Value}{d:List Value}{H':Heap}{v:Value}(b:o.isCall=false)(k:Q .normal d H')(h:evSets S H l=some vs:=by exact Ao)(g:evChk S H c=true:=by exact T9)(f:ev S H a=some xs:=by exact Ao)(i:cK lo o xs H=some (v,H'):=by exact Ao)(e:setD (setAll S vs) dst v=d:=by exact Ao):wpS cp lo (.hv l c [] dst o a) Q S H:=xB b h g f i e k
theorem Td{P Q:Prop}(k:Q)(h:Hdn Q->P:=by intro k;(try simp only[aD]);(repeat' ((first|refine V6 ?_|refine VZ rfl ?_);(try simp only[aD])));exact k.out):P:=h ⟨k⟩
theorem Te{cf:CF}{R:Value->Heap->Prop}{S:List Value}{H:Heap}{vs:List Value}(k:R (aM vs) H)(h:evList S H cf.res=some vs:=by exact Ao):jk cf R .ret S H:=jl h k
theorem dP{P:Prop}(h:P:=by simp(disch:=try exact dO)only[evB,xtr,Nat.reduceAdd,Nat.reduceBEq,Int.reduceToNat, *]):P:=h
theorem aN{P:Prop}(h:P:=by simp(disch:=try exact dO)only[evB,xtr,Nat.reduceAdd,Nat.reduceBEq,Int.reduceToNat, *];rfl):P:=h
theorem e9{P:Prop}(h:P:=by simp(disch:=try exact dO)only[evB,xtr,Nat.reduceAdd,Nat.reduceBEq,Int.reduceToNat, *];try rfl):P:=h
theorem V7{cp:FuncId->Option CF}{lo:Nat}{l:List<|Nat×E}{a:List E}{Q:bI}{S:List Value}{H:Heap}{vs:List<|Nat×Value}{b:List Value}(k:Q .normal b H)(h:evSets S H l=some vs:=by exact aN)(d:evChk S H a=true:=by exact dP)(c:setAll S vs=b:=by exact aN):wpS cp lo (.sets l a) Q S H:=nj h d c k
theorem aT{cp:FuncId->Option CF}{lo:Nat}{l:List<|Nat×E}{b:List E}{Q:bI}{S:List Value}{H:Heap}{vs:List<|Nat×Value}{dst:Option Nat}{o:HOp}{a:E}{xs:List Value}(k:wpH cp lo o xs H λv H'=>Q .normal (setD (setAll S vs) dst v) H')(h:evSets S H l=some vs:=by exact aN)(d:evChk S H b=true:=by exact dP)(c:ev S H a=some xs:=by exact aN):wpS cp lo (.hv l b [] dst o a) Q S H:=xA h d c k
theorem V0{cp:FuncId->Option CF}{lo:Nat}{l:List<|Nat×E}{c:List E}{Q:bI}{S:List Value}{H:Heap}{vs:List<|Nat×Value}{dst:Option Nat}{o:HOp}{a:E}{xs:List Value}{d:List Value}{H':Heap}{v:Value}(b:o.isCall=false)(k:Q .normal d H')(h:evSets S H l=some vs:=by exact aN)(g:evChk S H c=true:=by exact dP)(f:ev S H a=some xs:=by exact aN)(i:cK lo o xs H=some (v,H'):=by exact aN)(e:setD (setAll S vs) dst v=d:=by exact aN):wpS cp lo (.hv l c [] dst o a) Q S H:=xB b h g f i e k
theorem aP{cp:FuncId->Option CF}{lo:Nat}{c:E}{a b:Stm}{Q:bI}{S:List Value}{H:Heap}{t:Bool}(d:t=true->wpS cp lo a Q S H)(e:t=false->wpS cp lo b Q S H)(h:ev1 S H c=some (.bool t):=by exact aN):wpS cp lo (.cond c a b) Q S H:=iP h d e
theorem bL{cp:FuncId->Option CF}{lo:Nat}{c:E}{a b:Stm}{Q:bI}{S:List Value}{H:Heap}(k:wpS cp lo a Q S H)(h:ev1 S H c=some (.bool true):=by exact e9):wpS cp lo (.cond c a b) Q S H:=iP h (λ_=>k) nofun
theorem an{cp:FuncId->Option CF}{lo:Nat}{c:E}{a b:Stm}{Q:bI}{S:List Value}{H:Heap}(k:wpS cp lo b Q S H)(h:ev1 S H c=some (.bool false):=by exact e9):wpS cp lo (.cond c a b) Q S H:=iP h nofun λ_=>k
theorem aA{P Q:Prop}(k:Q)(h:Hdn Q->P:=by intro k;(try simp only[aD]);(repeat' ((first|refine V7 ?_|refine V0 rfl ?_);(try simp only[aD])));exact k.out):P:=h ⟨k⟩
theorem bF{P Q:Prop}(k:Q)(h:Hdn Q->P:=by intro k;(try simp only[aD]);refine aT ?_;exact k.out):P:=h ⟨k⟩
theorem aK{cf:CF}{R:Value->Heap->Prop}{S:List Value}{H:Heap}{vs:List Value}(k:R (aM vs) H)(h:evList S H cf.res=some vs:=by exact aN):jk cf R .ret S H:=jl h k
theorem K0{P:Prop}(h:P:=by simp(disch:=try exact dO)only[evB,xtr,Nat.reduceAdd,Nat.reduceMul,Nat.reduceBEq,Int.reduceToNat,Int.reduceEq,Int.reduceNe, *]):P:=h
theorem px{P:Prop}(h:P:=by simp(disch:=try exact dO)only[evB,xtr,Nat.reduceAdd,Nat.reduceMul,Nat.reduceBEq,Int.reduceToNat,Int.reduceEq,Int.reduceNe, *];rfl):P:=h
theorem Tc{P:Prop}(h:P:=by simp(disch:=try exact dO)only[evB,xtr,Nat.reduceAdd,Nat.reduceMul,Nat.reduceBEq,Int.reduceToNat,Int.reduceEq,Int.reduceNe, *];try rfl):P:=h
theorem V8{cp:FuncId->Option CF}{lo:Nat}{l:List<|Nat×E}{a:List E}{Q:bI}{S:List Value}{H:Heap}{vs:List<|Nat×Value}{b:List Value}(k:Q .normal b H)(h:evSets S H l=some vs:=by exact px)(d:evChk S H a=true:=by exact K0)(c:setAll S vs=b:=by exact px):wpS cp lo (.sets l a) Q S H:=nj h d c k
theorem Dm{cp:FuncId->Option CF}{lo:Nat}{l:List<|Nat×E}{b:List E}{Q:bI}{S:List Value}{H:Heap}{vs:List<|Nat×Value}{dst:Option Nat}{o:HOp}{a:E}{xs:List Value}(k:wpH cp lo o xs H λv H'=>Q .normal (setD (setAll S vs) dst v) H')(h:evSets S H l=some vs:=by exact px)(d:evChk S H b=true:=by exact K0)(c:ev S H a=some xs:=by exact px):wpS cp lo (.hv l b [] dst o a) Q S H:=xA h d c k
theorem V1{cp:FuncId->Option CF}{lo:Nat}{l:List<|Nat×E}{c:List E}{Q:bI}{S:List Value}{H:Heap}{vs:List<|Nat×Value}{dst:Option Nat}{o:HOp}{a:E}{xs:List Value}{d:List Value}{H':Heap}{v:Value}(b:o.isCall=false)(k:Q .normal d H')(h:evSets S H l=some vs:=by exact px)(g:evChk S H c=true:=by exact K0)(f:ev S H a=some xs:=by exact px)(i:cK lo o xs H=some (v,H'):=by exact px)(e:setD (setAll S vs) dst v=d:=by exact px):wpS cp lo (.hv l c [] dst o a) Q S H:=xB b h g f i e k
theorem VW{cp:FuncId->Option CF}{lo:Nat}{c:E}{a b:Stm}{Q:bI}{S:List Value}{H:Heap}{t:Bool}(d:t=true->wpS cp lo a Q S H)(e:t=false->wpS cp lo b Q S H)(h:ev1 S H c=some (.bool t):=by exact px):wpS cp lo (.cond c a b) Q S H:=iP h d e
theorem Dn{cp:FuncId->Option CF}{lo:Nat}{c:E}{a b:Stm}{Q:bI}{S:List Value}{H:Heap}(k:wpS cp lo b Q S H)(h:ev1 S H c=some (.bool false):=by exact Tc):wpS cp lo (.cond c a b) Q S H:=iP h nofun λ_=>k
theorem lF{P Q:Prop}(k:Q)(h:Hdn Q->P:=by intro k;(try simp only[aD]);(repeat' ((first|refine V8 ?_|refine V1 rfl ?_);(try simp only[aD])));exact k.out):P:=h ⟨k⟩
theorem zG{P Q:Prop}(k:Q)(h:Hdn Q->P:=by intro k;(try simp only[aD]);refine Dm ?_;exact k.out):P:=h ⟨k⟩
theorem Th{cp:FuncId->Option CF}{lo:Nat}{l:List<|Nat×E}{b:List E}{Q:bI}{S:List Value}{H:Heap}{vs:List<|Nat×Value}{dst:Option Nat}{o:HOp}{a:E}{xs:List Value}{c:PC}(k:wpH cp lo o xs H λv H'=>Q .normal (setD (setAll S vs) dst v) H')(h:evSets S H l=some vs:=by exact px)(e:evChk S H b=true:=by exact K0)(f:holds S H c=some true:=by exact Tc)(d:ev S H a=some xs:=by exact px):wpS cp lo (.hv l b c dst o a) Q S H:=Mu h e f d k
theorem K2{cf:CF}{R:Value->Heap->Prop}{S:List Value}{H:Heap}{vs:List Value}(k:R (aM vs) H)(h:evList S H cf.res=some vs:=by exact px):jk cf R .ret S H:=jl h k
theorem aH{S:List Value}{F:(Nat->Value)->List Value}(h:S=F (λk=>S.getD k undef)):∃z,S=F z:=⟨_,h⟩
end Go.Abs
