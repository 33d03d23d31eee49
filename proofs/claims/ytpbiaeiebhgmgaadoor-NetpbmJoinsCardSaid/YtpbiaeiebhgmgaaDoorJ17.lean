/- Netpbm: calls that may panic; the parser's small methods. Netpbm: white space and remarks, numbers: what they are, and the program's parser. Netpbm: white space and remarks, numbers, headers: the reference. -/
import Derived.Test.YtpbiaeiebhgmgaaDoorJ16
set_option linter.unusedVariables false
set_option linter.unusedSimpArgs false
set_option linter.unusedSectionVars false
namespace Go.Proofs.YtpbiaeiebhgmgaaDoor
open Go.Abs
set_option linter.unusedSimpArgs false
set_option linter.unusedVariables false
set_option maxRecDepth 20000
def EvE(cp:FuncId→Option CF)(lo:Nat)(f:FuncId)(args:List Value)(H:Heap)(R K:Value→Heap→Prop):Prop:=Ev cp lo f args H R∨EvP cp lo f args H K
def bodyE(cf:CF)(R K:Value→Heap→Prop):Post:=fun ex S H=>match ex with
 | .exit j=>j=panicId∧match S with
  | p::_=>K p H
  | []=>False
 | ex=>bodyQ cf R ex S H
section
variable {cp:FuncId→Option CF}{lo:Nat}
theorem evE_of_wp{f:FuncId}{cf:CF}{args:List Value}{H:Heap}{R K:Value→Heap→Prop}(hcf:cp f=some cf)(hk:cf.kind=.plain)(hnp:args.length=cf.np)
  (h:wpS cp lo cf.body (bodyE cf R K) (args++List.replicate (cf.ns-cf.np) undef) H):EvE cp lo f args H R K:=by
 obtain⟨N,ex,S',H',h1,h2⟩:=wpS_ok _ _ _ _ h
 have fin:∀(ex:Ex),(ex=.normal∨ex=.ret)→(∀n,N≤n→exec (run cp n) lo n cf.body (args++List.replicate (cf.ns-cf.np) undef) H=some (ex,S',H'))→bodyQ cf R ex S' H'→Ev cp lo f args H R:=by
  intro ex hex h1 h2
  have h3:match evList S' H' cf.res with|some vs=>R (resultOf vs) H'|none=>False:=by
   rcases hex with rfl|rfl<;>exact h2
  split at h3
  ·rename_i vs hvs
   refine⟨N+1,resultOf vs,H',fun n hn=>?_,h3⟩
   obtain⟨n',rfl⟩:∃n',n=n'+1:=⟨n-1,by omega⟩
   simp only[run,hcf,hnp,if_true,hk]
   rw[h1 n' (by omega)]
   rcases hex with rfl|rfl<;>simp only[hvs]
  ·exact h3.elim
 cases ex with
 | normal=>exact .inl (fin .normal (.inl rfl) h1 h2)
 | ret=>exact .inl (fin .ret (.inr rfl) h1 h2)
 | exit j=>
  obtain⟨hj,h2⟩:=h2
  cases S' with
  | nil=>exact h2.elim
  | cons p S1=>
   refine .inr ⟨N+1,p,H',fun n hn=>?_,h2⟩
   obtain⟨n',rfl⟩:∃n',n=n'+1:=⟨n-1,by omega⟩
   simp only[run,hcf,hnp,if_true,hk]
   rw[h1 n' (by omega)]
   simp only[hj,if_true]
theorem aw_callE{l:List (Nat×E)}{chk:List E}{dst:Option Nat}{a:E}{Q:Post}{S:List Value}{H:Heap}{vs:List (Nat×Value)}{f:FuncId}{first cap:Array Value}{args:List Value}{R K:Value→Heap→Prop}
  (h:evSets S H l=some vs) (hc:evChk S H chk=true) (ha:ev S H a=some (.func (.func f) first cap::args))
  (hE:EvE cp lo f (first.toList++args++cap.toList) H R K) (k:∀v H',R v H'→Q .normal (setD (setAll S vs) dst v) H') (kp:∀v H',K v H'→Q (.exit panicId) (v::setAll S vs) H'):wpS cp lo (.hv l chk [] dst (.call false) a) Q S H:=by
 rcases hE with hE|hE
 ·exact aw_hv h hc ha (wpH_call0 hE k)
 ·exact aw_pan h hc ha (wpP_call hE kp)
theorem blockQ_p{i:Nat}{Q:Post}{S:List Value}{H:Heap}(h:i<999999):blockQ i Q (.exit panicId) S H=Q (.exit panicId) S H:=by
 have:panicId≠i:=by unfold panicId;omega
 rw[blockQ_e,if_neg this]
theorem bodyE_p{cf:CF}{R K:Value→Heap→Prop}{p:Value}{S:List Value}{H:Heap}(h:K p H):bodyE cf R K (.exit panicId) (p::S) H:=⟨rfl,h⟩
theorem bodyE_r{cf:CF}{R K:Value→Heap→Prop}{S:List Value}{H:Heap}(h:bodyQ cf R .ret S H):bodyE cf R K .ret S H:=h
theorem bodyE_n{cf:CF}{R K:Value→Heap→Prop}{S:List Value}{H:Heap}(h:bodyQ cf R .normal S H):bodyE cf R K .normal S H:=h
end
theorem se31{lo:Nat}{H:Heap}{R K:Value→Heap→Prop}{a0 a1:Value}(h:wpS cp lo bd31 (bodyE cf31 R K) [a0,a1,undef,undef,undef,undef,undef,undef,undef,undef,undef,undef,undef,undef,undef] H):EvE cp lo 31 [a0,a1] H R K:=evE_of_wp (cf:=cf31) rfl rfl rfl h
theorem se40{lo:Nat}{H:Heap}{R K:Value→Heap→Prop}{a0 a1 a2:Value}(h:wpS cp lo bd40 (bodyE cf40 R K) [a0,a1,a2,undef,undef,undef,undef] H):EvE cp lo 40 [a0,a1,a2] H R K:=evE_of_wp (cf:=cf40) rfl rfl rfl h
theorem se41{lo:Nat}{H:Heap}{R K:Value→Heap→Prop}{a0 a1:Value}(h:wpS cp lo bd41 (bodyE cf41 R K) [a0,a1] H):EvE cp lo 41 [a0,a1] H R K:=evE_of_wp (cf:=cf41) rfl rfl rfl h
theorem se42{lo:Nat}{H:Heap}{R K:Value→Heap→Prop}{a0 a1 a2:Value}(h:wpS cp lo bd42 (bodyE cf42 R K) [a0,a1,a2,undef,undef,undef,undef,undef,undef,undef,undef,undef,undef,undef] H):EvE cp lo 42 [a0,a1,a2] H R K:=evE_of_wp (cf:=cf42) rfl rfl rfl h
theorem se43{lo:Nat}{H:Heap}{R K:Value→Heap→Prop}{a0 a1 a2:Value}(h:wpS cp lo bd43 (bodyE cf43 R K) [a0,a1,a2,undef,undef,undef,undef,undef,undef,undef,undef,undef,undef,undef,undef,undef,undef] H):EvE cp lo 43 [a0,a1,a2] H R K:=evE_of_wp (cf:=cf43) rfl rfl rfl h
theorem se44{lo:Nat}{H:Heap}{R K:Value→Heap→Prop}{a0 a1 a2:Value}(h:wpS cp lo bd44 (bodyE cf44 R K) [a0,a1,a2,undef,undef,undef,undef,undef,undef,undef,undef,undef,undef,undef,undef,undef,undef,undef,undef] H):EvE cp lo 44 [a0,a1,a2] H R K:=evE_of_wp (cf:=cf44) rfl rfl rfl h
theorem se45{lo:Nat}{H:Heap}{R K:Value→Heap→Prop}{a0 a1:Value}(h:wpS cp lo bd45 (bodyE cf45 R K) [a0,a1,undef,undef,undef,undef,undef,undef,undef,undef] H):EvE cp lo 45 [a0,a1] H R K:=evE_of_wp (cf:=cf45) rfl rfl rfl h
theorem se52{lo:Nat}{H:Heap}{R K:Value→Heap→Prop}{a0:Value}(h:wpS cp lo bd52 (bodyE cf52 R K) [a0,undef,undef,undef,undef,undef,undef,undef] H):EvE cp lo 52 [a0] H R K:=evE_of_wp (cf:=cf52) rfl rfl rfl h
theorem se54{lo:Nat}{H:Heap}{R K:Value→Heap→Prop}{a0 a1:Value}(h:wpS cp lo bd54 (bodyE cf54 R K) [a0,a1,undef,undef] H):EvE cp lo 54 [a0,a1] H R K:=evE_of_wp (cf:=cf54) rfl rfl rfl h
def errI(e:Int):Value:=.iface 58 (.agg #[.int .i64 e])
theorem checkP{lo:Nat}{H:Heap}{b:Bool}{e:Int}:EvE cp lo 41 [.bool b,.int .i64 e] H (fun _ H'=>H=H'∧b=true) (fun v H'=>H=H'∧b=false∧v=errI e):=by
 refine se41 ?_
 unfold bd41
 simp only[kB,ctlB]
 refine xCNb (fun h=>?_) (fun h=>?_)
 ·have hb:b=false:=by cases b<;>simp at h ⊢
  refine aw_pan (xENb) (by simp(disch:=first|omega|(simp only[lenB];omega))only[evB,xBNb,Nat.reduceAdd,Nat.reduceBEq, *]) (xENb) ?_
  refine wpP_pan ?_
  exact bodyE_p ⟨rfl,hb,rfl⟩
 ·have hb:b=true:=by cases b<;>simp at h ⊢
  (try simp only[ctlB])
  refine bodyE_n ?_
  unfold cf41
  refine body_normal (xENb) ?_
  exact⟨rfl,hb⟩
def PS(H:Heap)(b:Nat)(v:Value)(i:Nat):Heap:=H.set b (some [v,.int .i64 (i:Nat)])
structure Src (H:Heap)(b:Nat)(l:List UInt8)(bw ow:Nat)(sp:Option Nat)(cap:Nat)(xs:List Value):Prop where
 get:H.get bw=some xs
 at':∀i,i<l.length→xs[ow+i]?=some (encU (l.getD i 0))
 ne:bw≠b
 lt:b<H.length
 len:l.length≤4194304
 sp1:sp=none∨sp=some 1
 cap:l.length≤cap
theorem PS_get{H:Heap}{b:Nat}{v:Value}(h:b<H.length)(i:Nat):(PS H b v i).get b=some [v,.int .i64 (i:Nat)]:=get_set_self h
theorem PS_other{H:Heap}{b c:Nat}{v:Value}(h:c≠b)(i:Nat):(PS H b v i).get c=H.get c:=get_set_ne (fun e=>h e.symm)
theorem PS_set{H:Heap}{b:Nat}{v:Value}(i j:Nat):List.set (PS H b v i) b (some [v,.int .i64 (j:Nat)])=PS H b v j:=by
 unfold PS;rw[List.set_set]
theorem PS_len{H:Heap}{b:Nat}{v:Value}(i:Nat):(PS H b v i).length=H.length:=by simp[PS]
def isSep(c:UInt8):Bool:=wsB c || decide ((c.toNat:Int)=35)
def isDig(c:UInt8):Bool:=decide (48≤(c.toNat:Int))&&decide ((c.toNat:Int)≤57)
abbrev ptr(b:Nat):Value:=.pointer (some ⟨b,0,none⟩)
section
variable {lo:Nat}{H:Heap}{b:Nat}{l:List UInt8}{bw ow:Nat}{sp:Option Nat}{cap:Nat}{xs:List Value}
abbrev srcV(bw ow:Nat)(sp:Option Nat)(l:List UInt8)(cap:Nat):Value:=.slice (some ⟨bw,ow,sp⟩) l.length cap
theorem endedP{i:Nat}(hs:Src H b l bw ow sp cap xs):Ev cp lo 53 [ptr b] (PS H b (srcV bw ow sp l cap) i) (fun r H'=>PS H b (srcV bw ow sp l cap) i=H'∧r=.bool (decide (l.length≤i))):=by
 have g1:=PS_get (v:=srcV bw ow sp l cap) hs.lt i
 refine st53 ?_;unfold bd53 cf53;simp only[kB,ctlB]
 repeat' ((first|refine xSNb ?_|refine xONb rfl ?_);(try simp only[ctlB]))
 refine xRNb ?_
 refine⟨rfl,?_⟩
 simp[resultOf]
theorem sepaP{i:Nat}(hs:Src H b l bw ow sp cap xs)(hi:i<l.length):Ev cp lo 56 [ptr b] (PS H b (srcV bw ow sp l cap) i) (fun r H'=>PS H b (srcV bw ow sp l cap) i=H'∧r=.bool (isSep (l.getD i 0))):=by
 have g1:=PS_get (v:=srcV bw ow sp l cap) hs.lt i
 have g2:=(PS_other (v:=srcV bw ow sp l cap) hs.ne i).trans hs.get
 have hat:=hs.at' i hi
 generalize l.getD i 0=c at hat ⊢
 have hcl:=c.toNat_lt
 refine st56 ?_;unfold bd56 cf56;simp only[kB,ctlB]
 repeat' ((first|refine xSNb ?_|refine xONb rfl ?_);(try simp only[ctlB]))
 refine xHNb ?_
 refine wpH_callC whiteP ?_
 rintro r H1 ⟨rfl,rfl⟩
 (try simp only[ctlB])
 repeat' ((first|refine xSNb ?_|refine xONb rfl ?_);(try simp only[ctlB]))
 refine xRNb ?_
 exact⟨rfl,rfl⟩
theorem digP{i:Nat}(hs:Src H b l bw ow sp cap xs):Ev cp lo 66 [ptr b] (PS H b (srcV bw ow sp l cap) i) (fun r H'=>PS H b (srcV bw ow sp l cap) i=H'∧r=.bool (decide (i<l.length)&&isDig (l.getD i 0))):=by
 have g1:=PS_get (v:=srcV bw ow sp l cap) hs.lt i
 have g2:=(PS_other (v:=srcV bw ow sp l cap) hs.ne i).trans hs.get
 refine st66 ?_;unfold bd66 cf66;simp only[kB,ctlB]
 repeat' ((first|refine xSNb ?_|refine xONb rfl ?_);(try simp only[ctlB]))
 refine xHNb ?_
 refine wpH_callC (endedP hs) ?_
 rintro r H1 ⟨rfl,rfl⟩
 by_cases hi:i<l.length
 ·have hat:=hs.at' i hi
  generalize l.getD i 0=c at hat ⊢
  have hcl:=c.toNat_lt
  have hd:decide (l.length≤i)=false:=by simp;omega
  rw[hd]
  (try simp only[ctlB])
  repeat' ((first|refine xSNb ?_|refine xONb rfl ?_);(try simp only[ctlB]))
  refine xRNb ?_
  refine⟨rfl,?_⟩
  rw[decide_eq_true hi];rfl
 ·have hd:decide (l.length≤i)=true:=by simp;omega
  rw[hd]
  (try simp only[ctlB])
  repeat' ((first|refine xSNb ?_|refine xONb rfl ?_);(try simp only[ctlB]))
  refine xRNb ?_
  refine⟨rfl,?_⟩
  rw[decide_eq_false hi];rfl
end
end Go.Proofs.YtpbiaeiebhgmgaaDoor
namespace Go.Proofs.YtpbiaeiebhgmgaaDoor
open Go.Abs
set_option linter.unusedSimpArgs false
set_option linter.unusedVariables false
set_option maxRecDepth 20000
def eol(l:List UInt8)(i:Nat):Nat:=if i<l.length∧¬ ((l.getD i 0).toNat:Int)=10∧¬ ((l.getD i 0).toNat:Int)=13 then eol l (i+1) else i
termination_by l.length-i
theorem eol_ge(l:List UInt8)(i:Nat):i≤eol l i:=by
 rw[eol]
 split
 ·have:=eol_ge l (i+1);omega
 ·exact Nat.le_refl _
termination_by l.length-i
theorem eol_le(l:List UInt8)(i:Nat)(h:i≤l.length):eol l i≤l.length:=by
 rw[eol]
 split
 ·exact eol_le l (i+1) (by omega)
 ·exact h
termination_by l.length-i
theorem eol_go{l:List UInt8}{i:Nat}(h:i<l.length)(h1:¬ ((l.getD i 0).toNat:Int)=10)(h2:¬ ((l.getD i 0).toNat:Int)=13):eol l i=eol l (i+1):=by
 rw[eol,if_pos ⟨h,h1,h2⟩]
theorem eol_end{l:List UInt8}{i:Nat}(h:¬ (i<l.length∧¬ ((l.getD i 0).toNat:Int)=10∧¬ ((l.getD i 0).toNat:Int)=13)):eol l i=i:=by
 rw[eol,if_neg h]
def skipS(l:List UInt8)(i:Nat):Nat:=
 if i<l.length∧isSep (l.getD i 0)=true then skipS l (if ((l.getD i 0).toNat:Int)=35 then eol l (i+1) else i+1) else i
termination_by l.length-i
decreasing_by
 rename_i h
 have:=eol_ge l (i+1)
 split<;>omega
theorem skip_end{l:List UInt8}{i:Nat}(h:¬ (i<l.length∧isSep (l.getD i 0)=true)):skipS l i=i:=by
 rw[skipS,if_neg h]
theorem skip_rem{l:List UInt8}{i:Nat}(h:i<l.length)(h2:((l.getD i 0).toNat:Int)=35):skipS l i=skipS l (eol l i):=by
 rw[skipS,if_pos ⟨h,by unfold isSep;rw[decide_eq_true h2];simp⟩,if_pos h2,eol_go h (by omega) (by omega)]
theorem skip_ws{l:List UInt8}{i:Nat}(h:i<l.length)(h1:isSep (l.getD i 0)=true)(h2:¬ ((l.getD i 0).toNat:Int)=35):skipS l i=skipS l (i+1):=by
 rw[skipS,if_pos ⟨h,h1⟩,if_neg h2]
theorem skip_le(l:List UInt8)(i:Nat)(h:i≤l.length):skipS l i≤l.length:=by
 rw[skipS]
 split
 ·rename_i h1
  refine skip_le l _ ?_
  split
  ·exact eol_le l _ (by omega)
  ·omega
 ·exact h
termination_by l.length-i
decreasing_by
 have:=eol_ge l (i+1)
 split<;>omega
section
variable {lo:Nat}{H:Heap}{b:Nat}{l:List UInt8}{bw ow:Nat}{sp:Option Nat}{cap:Nat}{xs:List Value}
theorem skipP{i:Nat}(hs:Src H b l bw ow sp cap xs)(hlo:lo≤b)(hi:i≤l.length):Ev cp lo 57 [ptr b] (PS H b (srcV bw ow sp l cap) i) (fun _ H'=>H'=PS H b (srcV bw ow sp l cap) (skipS l i)):=by
 have hlen:=hs.len
 refine st57 ?_;unfold bd57 cf57;simp only[kB,ctlB]
 repeat' ((first|refine xSNb ?_|refine xONb rfl ?_);(try simp only[ctlB]))
 refine aw_loop' (fun m S H'=>∃(k:Nat) (z1 z2 z3 z4:Value),m+k=l.length∧skipS l k=skipS l i∧H'=PS H b (srcV bw ow sp l cap) k∧S=[ptr b,z1,z2,z3,z4]) (l.length-i) ⟨i,_,_,_,_,by omega,rfl,rfl,rfl⟩ ?_
 rintro m S H' ⟨k,z1,z2,z3,z4,hm,hk,rfl,rfl⟩
 replace hk:False∨_:=.inr hk
 replace hm:m+k≤l.length∧l.length≤m+k:=by omega
 have g1:=PS_get (v:=srcV bw ow sp l cap) hs.lt k
 have g2:=(PS_other (v:=srcV bw ow sp l cap) hs.ne k).trans hs.get
 (try simp only[ctlB])
 refine xHNb ?_
 refine wpH_call0 (endedP hs) ?_
 rintro r H1 ⟨rfl,rfl⟩
 by_cases hkl:k<l.length
 ·have hd:decide (l.length≤k)=false:=by simp;omega
  rw[hd]
  have hat:=hs.at' k hkl
  (try simp only[ctlB])
  refine aw_hv_if (t:=true) (xENb) (by simp(disch:=first|omega|(simp only[lenB];omega))only[evB,xBNb,Nat.reduceAdd,Nat.reduceBEq, *]) (by simp(disch:=first|omega|(simp only[lenB];omega))only[evB,xBNb,Nat.reduceAdd,Nat.reduceBEq, *];try rfl) (fun _=>⟨_,xENb,?_⟩) (fun h=>by cases h)
  refine wpH_call0 (sepaP hs hkl) ?_
  rintro r H1 ⟨rfl,rfl⟩
  generalize hc:l.getD k 0=c at hat ⊢
  have hcl:=c.toNat_lt
  cases hsep:isSep c with
  | false=>
   (try simp only[ctlB])
   refine xCNb (fun h=>?_) (fun h=>?_)
   ·simp at h
   (try simp only[ctlB])
   refine body_normal (by simp only[cf57];simp(disch:=first|omega|(simp only[lenB];omega))only[evB,xBNb,Nat.reduceAdd,Nat.reduceBEq, *];rfl) ?_
   rw[←hk.resolve_left id,skip_end (by rintro⟨_,h⟩;rw[hc,hsep]at h;cases h)]
  | true=>
   (try simp only[ctlB])
   refine xCNb (fun h=>?_) (fun h=>?_)
   ·(try simp only[ctlB])
    refine xCNb (fun h=>?_) (fun h=>?_)
    ·have h35:((l.getD k 0).toNat:Int)=35:=by rw[hc];exact of_decide_eq_true h
     have he1:=eol_go hkl (by omega) (by omega)
     have he2:=eol_ge l (k+1)
     have he3:=skip_rem hkl h35
     replace he3:False∨_:=.inr he3
     clear h
     (try simp only[ctlB])
     refine aw_loop' (fun m S H'=>∃(q:Nat) (z1 z2 z3 z4:Value),m+q=l.length∧k≤q∧eol l q=eol l k∧H'=PS H b (srcV bw ow sp l cap) q∧S=[ptr b,z1,z2,z3,z4]) (l.length-k) ⟨k,_,_,_,_,by omega,Nat.le_refl _,rfl,rfl,rfl⟩ ?_
     rintro m' S H' ⟨q,z1,z2,z3,z4,hm',hkq,hq,rfl,rfl⟩
     replace hq:False∨_:=.inr hq
     replace he1:False∨_:=.inr he1
     replace hm':m'+q≤l.length∧l.length≤m'+q:=by omega
     have g1:=PS_get (v:=srcV bw ow sp l cap) hs.lt q
     have g2:=(PS_other (v:=srcV bw ow sp l cap) hs.ne q).trans hs.get
     have hbl:b<(PS H b (srcV bw ow sp l cap) q).length:=by rw[PS_len];exact hs.lt
     have hfin:∀{z1 z2 z3 z4:Value},eol l q=q→∃m',m'<m∧∃(k:Nat) (z5 z6 z7 z8:Value),m'+k=l.length∧skipS l k=skipS l i∧PS H b (srcV bw ow sp l cap) q=PS H b (srcV bw ow sp l cap) k∧[ptr b,z1,z2,z3,z4]=[ptr b,z5,z6,z7,z8]:=by
      intro z1 z2 z3 z4 e
      have hqk:k<q:=by rw[←e,hq.resolve_left id,he1.resolve_left id];omega
      refine⟨m',by omega,q,z1,z2,z3,z4,by omega,?_,rfl,rfl⟩
      rw[←hk.resolve_left id,he3.resolve_left id,←hq.resolve_left id,e]
     (try simp only[ctlB])
     refine xHNb ?_
     refine wpH_callC (endedP hs) ?_
     rintro r H1 ⟨rfl,rfl⟩
     by_cases hql:q<l.length
     ·have hd:decide (l.length≤q)=false:=by simp;omega
      rw[hd]
      have hat:=hs.at' q hql
      generalize hc2:l.getD q 0=c2 at hat
      have hcl2:=c2.toNat_lt
      (try simp only[ctlB])
      refine xCNb (fun h=>?_) (fun h=>?_)
      ·have hne:¬ (c2.toNat:Int)=10∧¬ (c2.toNat:Int)=13:=by simp at h;omega
       clear h
       (try simp only[ctlB])
       repeat' ((first|refine xSNb ?_|refine xONb rfl ?_);(try simp only[ctlB]))
       simp only[loopQ_n]
       refine⟨m'-1,by omega,q+1,_,_,_,_,by omega,by omega,?_,?_,rfl⟩
       ·rw[←hq.resolve_left id,eol_go hql (by rw[hc2];exact hne.1) (by rw[hc2];exact hne.2)]
       ·rw[←PS_set q (q+1)];rfl
      ·have hne:¬ (q<l.length∧¬ ((l.getD q 0).toNat:Int)=10∧¬ ((l.getD q 0).toNat:Int)=13):=by
        rw[hc2];simp at h;omega
       clear h
       (try simp only[ctlB])
       simp only[loopQ_n]
       exact hfin (eol_end hne)
     ·have hd:decide (l.length≤q)=true:=by simp;omega
      rw[hd]
      (try simp only[ctlB])
      refine xCNb (fun h=>?_) (fun h=>?_)
      ·simp at h
      (try simp only[ctlB])
      simp only[loopQ_n]
      exact hfin (eol_end (fun h=>hql h.1))
    ·have h35:¬ ((l.getD k 0).toNat:Int)=35:=by rw[hc];exact of_decide_eq_false h
     have he3:=skip_ws hkl (by rw[hc];exact hsep) h35
     replace he3:False∨_:=.inr he3
     have hbl:b<(PS H b (srcV bw ow sp l cap) k).length:=by rw[PS_len];exact hs.lt
     clear h
     (try simp only[ctlB])
     repeat' ((first|refine xSNb ?_|refine xONb rfl ?_);(try simp only[ctlB]))
     simp only[loopQ_n]
     refine⟨m-1,by omega,k+1,_,_,_,_,by omega,?_,?_,rfl⟩
     ·rw[←hk.resolve_left id,he3.resolve_left id]
     ·rw[←PS_set k (k+1)];rfl
   ·simp at h
 ·have hd:decide (l.length≤k)=true:=by simp;omega
  rw[hd]
  (try simp only[ctlB])
  refine aw_hv_if (t:=false) (xENb) (by simp(disch:=first|omega|(simp only[lenB];omega))only[evB,xBNb,Nat.reduceAdd,Nat.reduceBEq, *]) (by simp(disch:=first|omega|(simp only[lenB];omega))only[evB,xBNb,Nat.reduceAdd,Nat.reduceBEq, *];try rfl) (fun h=>by cases h) (fun _=>?_)
  (try simp only[ctlB])
  refine xCNb (fun h=>?_) (fun h=>?_)
  ·simp at h
  (try simp only[ctlB])
  refine body_normal (by simp only[cf57];simp(disch:=first|omega|(simp only[lenB];omega))only[evB,xBNb,Nat.reduceAdd,Nat.reduceBEq, *];rfl) ?_
  rw[←hk.resolve_left id,skip_end (fun h=>hkl h.1)]
end
def digS(l:List UInt8)(i a:Nat):Nat×Nat:=if i<l.length∧isDig (l.getD i 0)=true then digS l (i+1) (min (10*a+((l.getD i 0).toNat-48)) 65536) else(a,i)
termination_by l.length-i
theorem digS_go{l:List UInt8}{i a:Nat}(h:i<l.length)(h2:isDig (l.getD i 0)=true):digS l i a=digS l (i+1) (min (10*a+((l.getD i 0).toNat-48)) 65536):=by
 rw[digS,if_pos ⟨h,h2⟩]
theorem digS_end{l:List UInt8}{i a:Nat}(h:¬ (i<l.length∧isDig (l.getD i 0)=true)):digS l i a=(a,i):=by
 rw[digS,if_neg h]
theorem digS_in(l:List UInt8)(i a:Nat)(h:i≤l.length)(ha:a≤65536):(digS l i a).1≤65536∧i≤(digS l i a).2∧(digS l i a).2≤l.length:=by
 rw[digS]
 split
 ·have:=digS_in l (i+1) (min (10*a+((l.getD i 0).toNat-48)) 65536) (by omega) (by omega)
  omega
 ·exact⟨ha,Nat.le_refl _,h⟩
termination_by l.length-i
def numS(l:List UInt8)(i:Nat):Int ⊕ (Nat×Nat):=
 if l.length≤i then .inl 10 else if isSep (l.getD i 0)=false then .inl 9 else if l.length≤skipS l i then .inl 10 else if isDig (l.getD (skipS l i) 0)=false then .inl 9 else .inr (digS l (skipS l i) 0)
section
variable {lo:Nat}{H:Heap}{b:Nat}{l:List UInt8}{bw ow:Nat}{sp:Option Nat}{cap:Nat}{xs:List Value}
theorem numP{i:Nat}(hs:Src H b l bw ow sp cap xs)(hlo:lo≤b)(hi:i≤l.length):EvE cp lo 52 [ptr b] (PS H b (srcV bw ow sp l cap) i)
  (fun r H'=>∃n j,numS l i=.inr (n,j)∧r=.int .i64 (n:Nat)∧H'=PS H b (srcV bw ow sp l cap) j) (fun r H'=>∃e j,numS l i=.inl e∧r=errI e∧H'=PS H b (srcV bw ow sp l cap) j):=by
 have hlen:=hs.len
 refine se52 ?_
 unfold bd52
 simp only[kB,ctlB]
 repeat' ((first|refine xSNb ?_|refine xONb rfl ?_);(try simp only[ctlB]))
 refine xHNb ?_
 refine wpH_call0 (endedP hs) ?_
 rintro r H1 ⟨rfl,rfl⟩
 (try simp only[ctlB])
 refine aw_callE (xENb) (by simp(disch:=first|omega|(simp only[lenB];omega))only[evB,xBNb,Nat.reduceAdd,Nat.reduceBEq, *]) (xENb) checkP ?_ ?_
 ·rintro r H1 ⟨rfl,hb⟩
  have hil:i<l.length:=by simp at hb;omega
  clear hb
  (try simp only[ctlB])
  refine xHNb ?_
  refine wpH_call0 (sepaP hs hil) ?_
  rintro r H1 ⟨rfl,rfl⟩
  (try simp only[ctlB])
  refine aw_callE (xENb) (by simp(disch:=first|omega|(simp only[lenB];omega))only[evB,xBNb,Nat.reduceAdd,Nat.reduceBEq, *]) (xENb) checkP ?_ ?_
  ·rintro r H1 ⟨rfl,hb2⟩
   (try simp only[ctlB])
   refine xHNb ?_
   refine wpH_call0 (skipP hs hlo hi) ?_
   rintro r H1 rfl
   (try simp only[ctlB])
   refine xHNb ?_
   refine wpH_call0 (endedP hs) ?_
   rintro r H1 ⟨rfl,rfl⟩
   (try simp only[ctlB])
   refine aw_callE (xENb) (by simp(disch:=first|omega|(simp only[lenB];omega))only[evB,xBNb,Nat.reduceAdd,Nat.reduceBEq, *]) (xENb) checkP ?_ ?_
   ·rintro r H1 ⟨rfl,hb3⟩
    have hjl:skipS l i<l.length:=by simp at hb3;omega
    clear hb3
    (try simp only[ctlB])
    refine xHNb ?_
    refine wpH_call0 (digP hs) ?_
    rintro r H1 ⟨rfl,rfl⟩
    rw[decide_eq_true hjl,Bool.true_and]
    (try simp only[ctlB])
    refine aw_callE (xENb) (by simp(disch:=first|omega|(simp only[lenB];omega))only[evB,xBNb,Nat.reduceAdd,Nat.reduceBEq, *]) (xENb) checkP ?_ ?_
    ·rintro r H1 ⟨rfl,hb4⟩
     have hnum:numS l i=.inr (digS l (skipS l i) 0):=by
      unfold numS;rw[if_neg (by omega),if_neg (by rw[hb2];simp),if_neg (by omega),if_neg (by rw[hb4];simp)]
     clear hb2 hb4
     (try simp only[ctlB])
     repeat' ((first|refine xSNb ?_|refine xONb rfl ?_);(try simp only[ctlB]))
     refine aw_loop' (fun m S H'=>∃(q a:Nat) (z1 z2 z3 z4 z5 z6:Value),m+q=l.length∧a≤65536∧digS l q a=digS l (skipS l i) 0∧H'=PS H b (srcV bw ow sp l cap) q∧S=[ptr b,z1,.int .i64 (a:Nat),z2,z3,z4,z5,z6]) (l.length-skipS l i) ⟨skipS l i,0,_,_,_,_,_,_,by omega,by omega,rfl,rfl,rfl⟩ ?_
     rintro m S H' ⟨q,a,z1,z2,z3,z4,z5,z6,hm,ha,hq,rfl,rfl⟩
     replace hq:False∨_:=.inr hq
     replace hnum:False∨_:=.inr hnum
     replace hm:m+q≤l.length∧l.length≤m+q:=by omega
     have g1:=PS_get (v:=srcV bw ow sp l cap) hs.lt q
     have g2:=(PS_other (v:=srcV bw ow sp l cap) hs.ne q).trans hs.get
     have hbl:b<(PS H b (srcV bw ow sp l cap) q).length:=by rw[PS_len];exact hs.lt
     (try simp only[ctlB])
     refine xHNb ?_
     refine wpH_call0 (digP hs) ?_
     rintro r H1 ⟨rfl,rfl⟩
     by_cases hgo:q<l.length∧isDig (l.getD q 0)=true
     ·have hd:(decide (q<l.length)&&isDig (l.getD q 0))=true:=by rw[hgo.2];simp[hgo.1]
      rw[hd]
      have hat:=hs.at' q hgo.1
      have hgo2:=digS_go (a:=a) hgo.1 hgo.2
      have hdig:=hgo.2
      have hql:=hgo.1
      clear hgo hd
      generalize l.getD q 0=c at hat hgo2 hdig
      have hcl:=c.toNat_lt
      have hc48:48≤c.toNat∧c.toNat≤57:=by unfold isDig at hdig;simp at hdig;omega
      have e1:IntKind.u8.wrap ((c.toNat:Int)-48)=((c.toNat-48:Nat):Int):=by rw[wrap_u8 (by omega) (by omega)];omega
      have e2:(10:Int)*(a:Int)+((c.toNat-48:Nat):Int)=((10*a+(c.toNat-48):Nat):Int):=by omega
      replace hgo2:False∨_:=.inr hgo2
      clear hdig
      (try simp only[ctlB])
      refine xCNb (fun h=>?_) (fun h=>?_)
      ·clear h
       (try simp only[ctlB])
       repeat' ((first|refine xSNb ?_|refine xONb rfl ?_);(try simp only[ctlB]))
       have e3:(if (65536:Int)<((10*a+(c.toNat-48):Nat):Int) then(65536:Int) else((10*a+(c.toNat-48):Nat):Int))=((min (10*a+(c.toNat-48)) 65536:Nat):Int):=by split<;>omega
       rw[e3]
       simp only[loopQ_n]
       refine⟨m-1,by omega,q+1,min (10*a+(c.toNat-48)) 65536,_,_,_,_,_,_,by omega,by omega,?_,?_,rfl⟩
       ·rw[←hq.resolve_left id,hgo2.resolve_left id]
       ·rw[←PS_set q (q+1)];rfl
      ·simp at h
     ·have hd:(decide (q<l.length)&&isDig (l.getD q 0))=false:=by
       cases e:isDig (l.getD q 0)with
       | false=>simp
       | true=>rw[Bool.and_true];exact decide_eq_false (fun h=>hgo ⟨h,e⟩)
      rw[hd]
      have he:=digS_end (a:=a) hgo
      rw[hq.resolve_left id]at he
      replace he:False∨_:=.inr he
      (try simp only[ctlB])
      refine xCNb (fun h=>?_) (fun h=>?_)
      ·simp at h
      (try simp only[ctlB])
      repeat' ((first|refine xSNb ?_|refine xONb rfl ?_);(try simp only[ctlB]))
      refine bodyE_r ?_
      unfold cf52
      refine body_ret (xENb) ?_
      exact⟨a,q,by rw[hnum.resolve_left id,he.resolve_left id],rfl,rfl⟩
    ·rintro r H1 ⟨rfl,hb4,rfl⟩
     (repeat (first|rw[blockQ_p (by decide)]|simp only[seqQ_e,loopQ_e,midX_e]));refine bodyE_p ?_
     exact⟨9,_,by unfold numS;rw[if_neg (by omega),if_neg (by rw[hb2];simp),if_neg (by omega),if_pos hb4],rfl,rfl⟩
   ·rintro r H1 ⟨rfl,hb3,rfl⟩
    (repeat (first|rw[blockQ_p (by decide)]|simp only[seqQ_e,loopQ_e,midX_e]));refine bodyE_p ?_
    exact⟨10,_,by unfold numS;rw[if_neg (by omega),if_neg (by rw[hb2];simp),if_pos (by simpa using hb3)],rfl,rfl⟩
  ·rintro r H1 ⟨rfl,hb2,rfl⟩
   (repeat (first|rw[blockQ_p (by decide)]|simp only[seqQ_e,loopQ_e,midX_e]));refine bodyE_p ?_
   exact⟨9,_,by unfold numS;rw[if_neg (by omega),if_pos hb2],rfl,rfl⟩
 ·rintro r H1 ⟨rfl,hb,rfl⟩
  (repeat (first|rw[blockQ_p (by decide)]|simp only[seqQ_e,loopQ_e,midX_e]));refine bodyE_p ?_
  exact⟨10,_,by unfold numS;rw[if_pos (by simpa using hb)],rfl,rfl⟩
end
end Go.Proofs.YtpbiaeiebhgmgaaDoor
namespace Go.Proofs.YtpbiaeiebhgmgaaDoor
open Go.Abs
set_option linter.unusedSimpArgs false
set_option linter.unusedVariables false
set_option maxRecDepth 20000
structure SrcV (H:Heap)(l:List UInt8)(bw ow:Nat)(xs:List Value):Prop where
 get:H.get bw=some xs
 at':∀i,i<l.length→xs[ow+i]?=some (encU (l.getD i 0))
 len:l.length≤4194304
section
variable {lo:Nat}{H:Heap}{l:List UInt8}{bw ow:Nat}{sp:Option Nat}{cap:Nat}{xs:List Value}
end
end Go.Proofs.YtpbiaeiebhgmgaaDoor
