/- Dmtext: C40 and Text are read. Dmtext: X12 is read; a masked codeword. Dmtext: Base 256 is read. -/
import Derived.Test.YthnflhimcmdnbaaT18
set_option linter.unusedVariables false
set_option linter.unusedSimpArgs false
set_option linter.unusedSectionVars false
namespace Go.Proofs.Ythnflhimcmdnbaa
open Go.Abs
set_option linter.unusedSimpArgs false
set_option linter.unusedVariables false
set_option maxRecDepth 20000
def u3(u:Nat×Nat×Nat):Nat→Nat
 | 0=>u.1
 | 1=>u.2.1
 | _=>u.2.2
def vK(lower:Bool)(u:Nat×Nat×Nat)(s:Nat×Bool×List UInt8):Nat→Nat ⊕ (Nat×Bool×List UInt8)
 | 0=>.inr s
 | k+1=>match vK lower u s k with
  | .inl e=>.inl e
  | .inr s'=>valS lower s' (u3 u k)
theorem vK_3(lower:Bool)(u:Nat×Nat×Nat)(s:Nat×Bool×List UInt8):vK lower u s 3=val3 lower s u:=by
 simp only[vK,val3,u3]
 cases valS lower s u.1 with
 | inl e=>rfl
 | inr s1=>rfl
theorem vK_err{lower:Bool}{u:Nat×Nat×Nat}{s:Nat×Bool×List UInt8}{e k:Nat}(h:vK lower u s k=.inl e):∀m,vK lower u s (k+m)=.inl e
 | 0=>h
 | m+1=>by
  have:=vK_err h m
  show(match vK lower u s (k+m)with | .inl e=>Sum.inl e | .inr s'=>valS lower s' (u3 u (k+m)))=_
  rw[this]
theorem chrS_le{b:Bool}{s k:Nat}(hk:k<40):chrS b s k≤128:=by
 unfold chrS
 repeat' split
 all_goals omega
section
variable {A H:Heap}{db:Nat}{wv:Value}{ws:List Nat}{a:Nat}{out:List UInt8}{lo:Nat}
theorem valsP{lower:Bool}{f:Nat}(hd:Dc A H db wv ws a out)(hlo:lo≤A.length)(hB:out.length+2*(ws.length-a)≤16400)(hf:ws.length-a<f):Ev cp lo 34 [ptr db,.bool lower] H (fun r H'=>isRd A db wv ws r H' (valsS ws lower f a (0,false,out))):=by
 refine st34 ?_;unfold bd34 cf34;simp only[kB,ctlB]
 repeat' ((first|refine xSDg ?_|refine xODg rfl ?_);(try simp only[ctlB]))
 generalize hR:valsS ws lower f a (0,false,out)=R
 refine aw_loop' (fun m S H'=>∃(a:Nat) (f:Nat) (s:Nat×Bool×List UInt8),((Dc A H' db wv ws a s.2.2∧s.1≤3)∧(s.2.2.length+2*(ws.length-a)≤16400∧ws.length-a<f∧m=ws.length-a))∧(False∨valsS ws lower f a s=R)∧∃(z:Nat→Value),S=[ptr db,.bool lower,z 2,encN s.1,.bool s.2.1,z 5,z 6,z 7,z 8,z 9,z 10,z 11,z 12,z 13,z 14,z 15,z 16,z 17,z 18,z 19,z 20,z 21]) (ws.length-a) ⟨a,f,(0,false,out),⟨⟨hd,Nat.zero_le _⟩,hB,hf,rfl⟩,.inr hR,exZDe rfl⟩ ?_
 clear hR hf hB hd
 rintro m S H1 ⟨a,f,⟨set,up,out⟩,⟨⟨hd,hset⟩,hB,hf,hm⟩,hR,z,rfl⟩
 simp only at hd hset hB hR ⊢
 obtain⟨g,rfl⟩:∃g,f=g+1:=⟨f-1,by omega⟩
 replace hm:m≤ws.length-a∧ws.length-a≤m:=by omega
 have hlA:=hd.ext.1
 have hR2:False∨(match triS ws a with | .inl e=>.inl e | .inr none=>.inr (a+1,out) | .inr (some u)=>(match val3 lower (set,up,out) u with | .inl e=>.inl e | .inr s'=>valsS ws lower g (a+2) s'))=R:=hR
 clear hR
 (try simp only[ctlB])
 refine xHDg ?_
 refine wpH_call0 (dtriP hd hlo) ?_
 intro r H2 hr
 clear hd
 cases ht:triS ws a with
 | inl e=>
  rw[ht]at hr hR2
  obtain⟨rfl,hx,he⟩:=hr
  replace hR2:=hR2.resolve_left id
  simp only at hR2
  subst hR2
  have hlx:=hx.1
  have hde:decide ((e:Int)=0)=false:=decide_eq_false (by omega)
  (try simp only[ctlB])
  repeat' ((first|refine xSDg ?_|refine xODg rfl ?_);(try simp only[ctlB]))
  refine xCDg (fun h=>?_) (fun h=>?_)
  ·clear h
   (try simp only[ctlB])
   repeat' ((first|refine xSDg ?_|refine xODg rfl ?_);(try simp only[ctlB]))
   refine xRDg ?_
   exact⟨rfl,hx.trans (Ext.app _ _),he⟩
  ·exfalso;simp at h;exact he h
 | inr o=>
  cases o with
  | none=>
   rw[ht]at hr hR2
   obtain⟨rfl,hd⟩:=hr
   replace hR2:=hR2.resolve_left id
   simp only at hR2
   subst hR2
   have hlx:=hd.ext.1
   (try simp only[ctlB])
   repeat' ((first|refine xSDg ?_|refine xODg rfl ?_);(try simp only[ctlB]))
   refine xCDg (fun h=>?_) (fun h=>?_)
   ·clear h
    (try simp only[ctlB])
    repeat' ((first|refine xSDg ?_|refine xODg rfl ?_);(try simp only[ctlB]))
    refine xRDg ?_
    exact⟨rfl,hd.mono (Ext.app _ _)⟩
   ·exfalso;simp at h
  | some u=>
   rw[ht]at hr hR2
   obtain⟨rfl,hd,⟨hu1,hu2,hu3⟩,hal⟩:=hr
   have hub:∀k,u3 u k≤39:=by
    intro k
    unfold u3
    split<;>assumption
   simp only at hR2
   rw[←vK_3]at hR2
   have hlx:=hd.ext.1
   (try simp only[ctlB])
   repeat' ((first|refine xSDg ?_|refine xODg rfl ?_);(try simp only[ctlB]))
   refine xCDg (fun h=>?_) (fun h=>?_)
   ·exfalso;simp at h
   clear h
   have hdm:=hd.mono (H':=H2++[some [encN u.1,encN u.2.1,encN u.2.2]]) (Ext.app _ _)
   change wpS cp lo _ _ _ (H2++[some [encN u.1,encN u.2.1,encN u.2.2]])
   have hgv:Heap.get (H2++[some [encN u.1,encN u.2.1,encN u.2.2]]) H2.length=some [encN u.1,encN u.2.1,encN u.2.2]:=get_app0
   generalize H2++[some [encN u.1,encN u.2.1,encN u.2.2]]=H3 at hdm hgv
   obtain⟨X,hX,hvi⟩:∃X:List Value,(False∨X=[encN u.1,encN u.2.1,encN u.2.2])∧(False∨∀k,k<3→X[k]?=some (encN (u3 u k))):=⟨_,.inr rfl,.inr (by
    intro k hk
    have:k=0∨k=1∨k=2:=by omega
    rcases this with rfl|rfl|rfl<;>rfl)⟩
   (try simp only[ctlB])
   repeat' ((first|refine xSDg ?_|refine xODg rfl ?_);(try simp only[ctlB]))
   clear hgv hu1 hu2 hu3 hd
   refine aw_for (fun k S H'=>∃s:Nat×Bool×List UInt8,((False∨vK lower u (set,up,out) k=.inr s)∧(Dc A H' db wv ws (a+2) s.2.2∧s.1≤3)∧s.2.2.length≤out.length+k)∧∃(z:Nat→Value),S=[ptr db,.bool lower,z 2,encN s.1,.bool s.2.1,z 5,z 6,z 7,z 8,z 9,z 10,z 11,z 12,z 13,z 14,.agg X.toArray,.int .i64 (k:Nat),z 17,z 18,z 19,z 20,z 21]) 3 ⟨(set,up,out),⟨.inr rfl,⟨hdm,hset⟩,Nat.le_refl _⟩,exZDe (by rw[hX.resolve_left id];rfl)⟩ ?_ ?_ ?_
   ·rintro k S H' hk ⟨s,h1,z,rfl⟩
    exact⟨decide ((k:Int)<3),by simp(disch:=first|omega|(simp only[lenB];omega))only[evB,xBDc,Nat.reduceAdd,Nat.reduceBEq,Int.reduceToNat, *],by simp;omega⟩
   ·rintro k S H4 hk ⟨⟨st,up',out'⟩,⟨hv,⟨hd4,hst⟩,hol⟩,z,rfl⟩
    simp only at hd4 hst hol ⊢
    have hxk:=hvi.resolve_left id k hk
    have hvv:=hub k
    have hv1:False∨vK lower u (set,up,out) (k+1)=valS lower (st,up',out') (u3 u k):=by
     right
     show(match vK lower u (set,up,out) k with | .inl e=>Sum.inl e | .inr s'=>valS lower s' (u3 u k))=_
     rw[hv.resolve_left id]
    clear hv hdm hub
    generalize u3 u k=x at hxk hvv hv1
    obtain⟨ov,b,⟨hg,hne⟩,ho⟩:=hd4.g
    have hlx:=hd4.ext.1
    have hdA:=hd4.dbA
    have hdl:=Heap.get_lt hg
    clear ho
    have hvS:valS lower (st,up',out') x=if st=0∧x≤2 then .inr (x+1,up',out') else if st=2∧x=30∧up'=false then .inr (0,true,out') else if chrS lower st x=128 then .inl 22 else .inr (0,false,out'++[UInt8.ofNat (if up' then chrS lower st x+128 else chrS lower st x)]):=rfl
    rw[hvS]at hv1
    clear hvS
    (try simp only[ctlB])
    repeat' ((first|refine xSDg ?_|refine xODg rfl ?_);(try simp only[ctlB]))
    by_cases hc1:st=0∧x≤2
    ·obtain⟨c1,c2⟩:=hc1
     have e1:decide ((st:Int)=0)=true:=decide_eq_true (by omega)
     have e2:decide ((x:Int)≤2)=true:=decide_eq_true (by omega)
     rw[if_pos ⟨c1,c2⟩]at hv1
     replace c1:st≤0:=by omega
     refine xCDg (fun h=>?_) (fun h=>?_)
     ·clear h e1 e2
      (try simp only[ctlB])
      repeat' ((first|refine xSDg ?_|refine xODg rfl ?_);(try simp only[ctlB]))
      exact⟨(x+1,up',out'),⟨hv1,⟨hd4,by simp only;omega⟩,by simp only;omega⟩,exZDe (by first|rfl|(simp only[Int.natCast_add,Int.natCast_one];rfl)|simp only[Int.natCast_add,Int.natCast_one])⟩
     ·cases h
    rw[if_neg hc1]at hv1
    have e1:(decide ((st:Int)=0)&&decide ((x:Int)≤2))=false:=by
     simp only[Bool.and_eq_false_iff,decide_eq_false_iff_not];omega
    refine xCDg (fun h=>?_) (fun h=>?_)
    ·exfalso;first|(rw[e1]at h;cases h)|cases h
    clear h e1 hc1
    (try simp only[ctlB])
    by_cases hc2:st=2∧x=30∧up'=false
    ·obtain⟨c1,c2,rfl⟩:=hc2
     have e1:decide ((st:Int)=2)=true:=decide_eq_true (by omega)
     have e2:decide ((x:Int)=30)=true:=decide_eq_true (by omega)
     rw[if_pos ⟨c1,c2,rfl⟩]at hv1
     replace c1:st≤2∧2≤st:=by omega
     replace c2:x≤30∧30≤x:=by omega
     refine xCDg (fun h=>?_) (fun h=>?_)
     ·clear h e1 e2
      (try simp only[ctlB])
      repeat' ((first|refine xSDg ?_|refine xODg rfl ?_);(try simp only[ctlB]))
      exact⟨(0,true,out'),⟨hv1,⟨hd4,by simp only;omega⟩,by simp only;omega⟩,exZDe (by first|rfl|(simp only[Int.natCast_add,Int.natCast_one];rfl)|simp only[Int.natCast_add,Int.natCast_one])⟩
     ·cases h
    rw[if_neg hc2]at hv1
    have e1:((decide ((st:Int)=2)&&decide ((x:Int)=30))&&!up')=false:=by
     cases up' with
     | true=>simp
     | false=>simp only[Bool.not_false,Bool.and_true,Bool.and_eq_false_iff,decide_eq_false_iff_not];simp at hc2;omega
    refine xCDg (fun h=>?_) (fun h=>?_)
    ·exfalso;first|(rw[e1]at h;cases h)|cases h
    clear h e1 hc2
    (try simp only[ctlB])
    refine xHDg ?_
    refine wpH_call0 (chrP (lo:=lo) (b:=lower) (s:=st) (k:=x) (by omega) (by omega) (by omega)) ?_
    rintro r H5 ⟨rfl,hx5⟩
    have hcl:=chrS_le (b:=lower) (s:=st) (k:=x) (by omega)
    have hd5:=hd4.mono hx5
    have hg5:=hx5.get hg
    have hl5:=hx5.1
    generalize chrS lower st x=c at hcl hv1 ⊢
    clear hd4 hg
    by_cases hc:c=128
    ·subst hc
     simp only[if_true]at hv1
     have hfin:R=.inl 22:=by
      have h3:=vK_err (hv1.resolve_left id) (2-k)
      rw[show k+1+(2-k)=3 by omega]at h3
      have h2:=hR2.resolve_left id
      rw[h3]at h2
      exact h2.symm
     subst hfin
     clear hv1 hR2
     (try simp only[ctlB])
     repeat' ((first|refine xSDg ?_|refine xODg rfl ?_);(try simp only[ctlB]))
     refine xCDg (fun h=>?_) (fun h=>?_)
     ·(try simp only[ctlB])
      repeat' ((first|refine xSDg ?_|refine xODg rfl ?_);(try simp only[ctlB]))
      refine xRDg ?_
      exact⟨rfl,hd5.ext,by omega⟩
     ·exfalso;simp at h
    rw[if_neg hc]at hv1
    have hb:(c != 128)=true:=by simpa using hc
    simp only[if_neg hc,hb]
    clear hb
    replace hc:c≤127:=by omega
    (try simp only[ctlB])
    repeat' ((first|refine xSDg ?_|refine xODg rfl ?_);(try simp only[ctlB]))
    refine xCDg (fun h=>?_) (fun h=>?_)
    ·exfalso;simp at h
    clear h
    (try simp only[ctlB])
    refine aw_midX (fun S' H'=>H5=H'∧∃(z:Nat→Value),S'=[ptr db,.bool lower,z 2,encN st,.bool up',z 5,z 6,z 7,z 8,.int .u8 ((if up' then c+128 else c:Nat):Int),z 10,z 11,z 12,z 13,z 14,.agg X.toArray,.int .i64 (k:Nat),z 17,z 18,z 19,z 20,z 21]) ?_ ?_
    ·cases up' with
     | true=>
      refine xCDg (fun h=>?_) (fun h=>?_)
      ·clear h
       (try simp only[ctlB])
       repeat' ((first|refine xSDg ?_|refine xODg rfl ?_);(try simp only[ctlB]))
       exact⟨by trivial,exZDe (by first|rfl|(simp only[Int.natCast_add,Int.natCast_one];rfl)|simp only[Int.natCast_add,Int.natCast_one])⟩
      ·cases h
     | false=>
      refine xCDg (fun h=>?_) (fun h=>?_)
      ·cases h
      ·clear h
       (try simp only[ctlB])
       exact⟨by trivial,exZDe (by first|rfl|(simp only[Int.natCast_add,Int.natCast_one];rfl)|simp only[Int.natCast_add,Int.natCast_one])⟩
    rintro S' H5' ⟨rfl,z,rfl⟩
    obtain⟨y,hy,hyl⟩:∃y,(False∨(if up' then c+128 else c:Nat)=y)∧y≤255:=⟨_,.inr rfl,by split<;>omega⟩
    rw[hy.resolve_left id]at hv1 ⊢
    (try simp only[ctlB])
    repeat' ((first|refine xSDg ?_|refine xODg rfl ?_);(try simp only[ctlB]))
    rw[←encU_of (n:=y) (by omega)]
    refine xHDg ?_
    refine dcApp (n:=1) (l:=[UInt8.ofNat y]) hd5 hg5 hlo rfl (by omega) (by omega) ?_
    intro ad m H6 hg6 hl6 hd6
    (try simp only[ctlB])
    repeat' ((first|refine xSDg ?_|refine xODg rfl ?_);(try simp only[ctlB]))
    exact⟨(0,false,out'++[UInt8.ofNat y]),⟨hv1,⟨hd6,Nat.zero_le _⟩,by simp;omega⟩,exZDe (by first|rfl|(simp only[Int.natCast_add,Int.natCast_one];rfl)|simp only[Int.natCast_add,Int.natCast_one])⟩
   ·rintro S H4 ⟨s,⟨hv,⟨hd4,hst⟩,hol⟩,z,rfl⟩
    have h2:=hR2.resolve_left id
    rw[hv.resolve_left id]at h2
    simp only at h2
    (try simp only[ctlB])
    exact⟨ws.length-(a+2),by omega,a+2,g,s,⟨⟨hd4,hst⟩,by omega,by omega,rfl⟩,.inr h2,exZDe rfl⟩
end
end Go.Proofs.Ythnflhimcmdnbaa
namespace Go.Proofs.Ythnflhimcmdnbaa
open Go.Abs
set_option linter.unusedSimpArgs false
set_option linter.unusedVariables false
set_option maxRecDepth 20000
def xK(u:Nat×Nat×Nat)(k:Nat):List UInt8:=(List.range k).map fun i=>UInt8.ofNat (xchr (u3 u i))
theorem xK_succ(u:Nat×Nat×Nat)(k:Nat):xK u (k+1)=xK u k++[UInt8.ofNat (xchr (u3 u k))]:=by
 unfold xK;rw[List.range_succ,List.map_append];rfl
theorem xK_3(u:Nat×Nat×Nat):xK u 3=[UInt8.ofNat (xchr u.1),UInt8.ofNat (xchr u.2.1),UInt8.ofNat (xchr u.2.2)]:=rfl
theorem xK_len(u:Nat×Nat×Nat)(k:Nat):(xK u k).length=k:=by simp[xK]
theorem xchr_le{k:Nat}(hk:k<40):xchr k≤127:=by
 unfold xchr
 repeat' split
 all_goals omega
section
variable {A H:Heap}{db:Nat}{wv:Value}{ws:List Nat}{a:Nat}{out:List UInt8}{lo:Nat}
theorem x12dP{f:Nat}(hd:Dc A H db wv ws a out)(hlo:lo≤A.length)(hB:out.length+2*(ws.length-a)≤16400)(hf:ws.length-a<f):Ev cp lo 36 [ptr db] H (fun r H'=>isRd A db wv ws r H' (x12S' ws f a out)):=by
 refine st36 ?_;unfold bd36 cf36;simp only[kB,ctlB]
 repeat' ((first|refine xSDg ?_|refine xODg rfl ?_);(try simp only[ctlB]))
 generalize hR:x12S' ws f a out=R
 refine aw_loop' (fun m S H'=>∃(a:Nat) (f:Nat) (out:List UInt8),((Dc A H' db wv ws a out)∧(out.length+2*(ws.length-a)≤16400∧ws.length-a<f∧m=ws.length-a))∧(False∨x12S' ws f a out=R)∧∃(z:Nat→Value),S=[ptr db,z 1,z 2,z 3,z 4,z 5,z 6,z 7,z 8,z 9,z 10,z 11,z 12,z 13,z 14,z 15,z 16]) (ws.length-a) ⟨a,f,out,⟨hd,hB,hf,rfl⟩,.inr hR,exZDe rfl⟩ ?_
 clear hR hf hB hd
 rintro m S H1 ⟨a,f,out,⟨hd,hB,hf,hm⟩,hR,z,rfl⟩
 obtain⟨g,rfl⟩:∃g,f=g+1:=⟨f-1,by omega⟩
 replace hm:m≤ws.length-a∧ws.length-a≤m:=by omega
 have hlA:=hd.ext.1
 have hR2:False∨(match triS ws a with | .inl e=>.inl e | .inr none=>.inr (a+1,out) | .inr (some u)=>x12S' ws g (a+2) (out++[UInt8.ofNat (xchr u.1),UInt8.ofNat (xchr u.2.1),UInt8.ofNat (xchr u.2.2)]))=R:=hR
 clear hR
 (try simp only[ctlB])
 refine xHDg ?_
 refine wpH_call0 (dtriP hd hlo) ?_
 intro r H2 hr
 clear hd
 cases ht:triS ws a with
 | inl e=>
  rw[ht]at hr hR2
  obtain⟨rfl,hx,he⟩:=hr
  replace hR2:=hR2.resolve_left id
  simp only at hR2
  subst hR2
  have hlx:=hx.1
  have hde:decide ((e:Int)=0)=false:=decide_eq_false (by omega)
  (try simp only[ctlB])
  repeat' ((first|refine xSDg ?_|refine xODg rfl ?_);(try simp only[ctlB]))
  refine xCDg (fun h=>?_) (fun h=>?_)
  ·clear h
   (try simp only[ctlB])
   repeat' ((first|refine xSDg ?_|refine xODg rfl ?_);(try simp only[ctlB]))
   refine xRDg ?_
   exact⟨rfl,hx.trans (Ext.app _ _),he⟩
  ·exfalso;simp at h;exact he h
 | inr o=>
  cases o with
  | none=>
   rw[ht]at hr hR2
   obtain⟨rfl,hd⟩:=hr
   replace hR2:=hR2.resolve_left id
   simp only at hR2
   subst hR2
   have hlx:=hd.ext.1
   (try simp only[ctlB])
   repeat' ((first|refine xSDg ?_|refine xODg rfl ?_);(try simp only[ctlB]))
   refine xCDg (fun h=>?_) (fun h=>?_)
   ·clear h
    (try simp only[ctlB])
    repeat' ((first|refine xSDg ?_|refine xODg rfl ?_);(try simp only[ctlB]))
    refine xRDg ?_
    exact⟨rfl,hd.mono (Ext.app _ _)⟩
   ·exfalso;simp at h
  | some u=>
   rw[ht]at hr hR2
   obtain⟨rfl,hd,⟨hu1,hu2,hu3⟩,hal⟩:=hr
   have hub:∀k,u3 u k≤39:=by
    intro k
    unfold u3
    split<;>assumption
   simp only at hR2
   rw[←xK_3]at hR2
   have hlx:=hd.ext.1
   (try simp only[ctlB])
   repeat' ((first|refine xSDg ?_|refine xODg rfl ?_);(try simp only[ctlB]))
   refine xCDg (fun h=>?_) (fun h=>?_)
   ·exfalso;simp at h
   clear h
   have hdm:=hd.mono (H':=H2++[some [encN u.1,encN u.2.1,encN u.2.2]]) (Ext.app _ _)
   change wpS cp lo _ _ _ (H2++[some [encN u.1,encN u.2.1,encN u.2.2]])
   have hgv:Heap.get (H2++[some [encN u.1,encN u.2.1,encN u.2.2]]) H2.length=some [encN u.1,encN u.2.1,encN u.2.2]:=get_app0
   generalize H2++[some [encN u.1,encN u.2.1,encN u.2.2]]=H3 at hdm hgv
   obtain⟨X,hX,hvi⟩:∃X:List Value,(False∨X=[encN u.1,encN u.2.1,encN u.2.2])∧(False∨∀k,k<3→X[k]?=some (encN (u3 u k))):=⟨_,.inr rfl,.inr (by
    intro k hk
    have:k=0∨k=1∨k=2:=by omega
    rcases this with rfl|rfl|rfl<;>rfl)⟩
   (try simp only[ctlB])
   repeat' ((first|refine xSDg ?_|refine xODg rfl ?_);(try simp only[ctlB]))
   clear hgv hu1 hu2 hu3 hd
   refine aw_for (fun k S H'=>(Dc A H' db wv ws (a+2) (out++xK u k))∧∃(z:Nat→Value),S=[ptr db,z 1,z 2,z 3,z 4,z 5,z 6,z 7,z 8,z 9,.agg X.toArray,.int .i64 (k:Nat),z 12,z 13,z 14,z 15,z 16]) 3 ⟨by simpa[xK]using hdm,exZDe (by rw[hX.resolve_left id];rfl)⟩ ?_ ?_ ?_
   ·rintro k S H' hk ⟨h1,z,rfl⟩
    exact⟨decide ((k:Int)<3),by simp(disch:=first|omega|(simp only[lenB];omega))only[evB,xBDc,Nat.reduceAdd,Nat.reduceBEq,Int.reduceToNat, *],by simp;omega⟩
   ·rintro k S H4 hk ⟨hd4,z,rfl⟩
    have hxk:=hvi.resolve_left id k hk
    have hvv:=hub k
    have hkl:=xK_len u k
    rw[xK_succ,←List.append_assoc]
    generalize u3 u k=x at hxk hvv ⊢
    clear hdm hub
    have hol:(out++xK u k).length≤out.length+3:=by simp[hkl];omega
    generalize out++xK u k=out' at hd4 hol ⊢
    obtain⟨ov,b,⟨hg,hne⟩,ho⟩:=hd4.g
    have hlx:=hd4.ext.1
    have hdA:=hd4.dbA
    have hdl:=Heap.get_lt hg
    clear ho hkl
    (try simp only[ctlB])
    repeat' ((first|refine xSDg ?_|refine xODg rfl ?_);(try simp only[ctlB]))
    refine xHDg ?_
    refine wpH_call1 (xchP (k:=x) (by omega) (Nat.le_refl _)) ?_
    rintro r H5 ⟨rfl,hx5⟩
    have hcl:=xchr_le (k:=x) (by omega)
    have hd5:=hd4.mono hx5
    have hg5:=hx5.get hg
    generalize xchr x=y at hcl ⊢
    (try simp only[ctlB])
    repeat' ((first|refine xSDg ?_|refine xODg rfl ?_);(try simp only[ctlB]))
    rw[←encU_of (n:=y) (by omega)]
    refine xHDg ?_
    refine dcApp (n:=1) (l:=[UInt8.ofNat y]) hd5 hg5 hlo rfl (by omega) (by omega) ?_
    intro ad m H6 hg6 hl6 hd6
    (try simp only[ctlB])
    repeat' ((first|refine xSDg ?_|refine xODg rfl ?_);(try simp only[ctlB]))
    exact⟨hd6,exZDe (by first|rfl|(simp only[Int.natCast_add,Int.natCast_one];rfl)|simp only[Int.natCast_add,Int.natCast_one])⟩
   ·rintro S H4 ⟨hd4,z,rfl⟩
    have hl3:=xK_len u 3
    generalize xK u 3=L at hd4 hl3 hR2
    (try simp only[ctlB])
    exact⟨ws.length-(a+2),by omega,a+2,g,out++L,⟨hd4,by simp;omega,by omega,rfl⟩,hR2,exZDe rfl⟩
theorem plnP(hd:Dc A H db wv ws a out)(hlo:lo≤A.length):Ev cp lo 45 [ptr db] H (fun r H'=>(ws.length≤a∧r=.tuple #[.int .i64 0,.bool false]∧Ext A H')∨(a<ws.length∧r=.tuple #[encN (unm ws a),.bool true]∧Dc A H' db wv ws (a+1) out)):=by
 obtain⟨ov,b,⟨hg,hne⟩,ho⟩:=hd.g
 have hlen:=hd.len
 have hle:=hd.le
 have hdA:=hd.dbA
 have hdl:=Heap.get_lt hg
 obtain⟨aw,cw,ew⟩:=hd.w.len
 subst ew
 have hlA:=hd.ext.1
 have hx0:=hd.ext
 refine st45 ?_;unfold bd45 cf45;simp only[kB,ctlB]
 repeat' ((first|refine xSDg ?_|refine xODg rfl ?_);(try simp only[ctlB]))
 by_cases ha:ws.length≤a
 ·have hdd:decide ((a:Int)≥(ws.length:Nat))=true:=decide_eq_true (by omega)
  have hdd2:decide ((ws.length:Int)≤(a:Nat))=true:=decide_eq_true (by omega)
  refine xCDg (fun h=>?_) (fun h=>?_)
  ·(try simp only[ctlB])
   repeat' ((first|refine xSDg ?_|refine xODg rfl ?_);(try simp only[ctlB]))
   refine xRDg ?_
   exact .inl ⟨ha,rfl,hx0⟩
  ·exfalso;simp at h
 have hdd:decide ((a:Int)≥(ws.length:Nat))=false:=decide_eq_false (by omega)
 have hdd2:decide ((ws.length:Int)≤(a:Nat))=false:=decide_eq_false (by omega)
 obtain⟨b1,o1,x1,i1,g1,e1⟩:=hd.at (k:=a) (by omega)
 have hby:=hd.byt a
 have hun:unm ws a=(wd ws a+256-msk a)%256:=rfl
 rw[hun]
 clear hun
 obtain⟨x,hx⟩:∃x,False∨wd ws a=x:=⟨_,.inr rfl⟩
 rw[hx.resolve_left id]at e1 ⊢
 replace hby:x≤255:=by rw[←hx.resolve_left id];exact hby
 have hmv:=hd.move (a':=a+1) hg (by omega)
 have hms:msk a≤255:=by unfold msk;omega
 refine xCDg (fun h=>?_) (fun h=>?_)
 ·exfalso;simp at h
 clear h hdd hdd2
 (try simp only[ctlB])
 refine xHDg ?_
 refine wpH_call1 (maskP (k:=a) (by omega)) ?_
 rintro r H1 ⟨rfl,rfl⟩
 generalize msk a=ms at hms ⊢
 have em:((x:Int)-(ms:Nat)+256).tmod 256=(((x+256-ms)%256:Nat):Int):=by rw[Int.tmod_eq_emod_of_nonneg (by omega)];omega
 have hy:(x+256-ms)%256≤255:=by omega
 generalize (x+256-ms)%256=y at em hy ⊢
 (try simp only[ctlB])
 repeat' ((first|refine xSDg ?_|refine xODg rfl ?_);(try simp only[ctlB]))
 refine xRDg ?_
 exact .inr ⟨by omega,rfl,hmv⟩
end
end Go.Proofs.Ythnflhimcmdnbaa
namespace Go.Proofs.Ythnflhimcmdnbaa
open Go.Abs
set_option linter.unusedSimpArgs false
set_option linter.unusedVariables false
set_option maxRecDepth 20000
section
variable {A H:Heap}{db:Nat}{wv:Value}{ws:List Nat}{a:Nat}{out:List UInt8}{lo:Nat}
theorem unm_lt(ws:List Nat)(a:Nat):unm ws a<256:=by unfold unm;omega
theorem bindP(hd:Dc A H db wv ws a out)(hlo:lo≤A.length)(hB:out.length+2*(ws.length-a)≤16400):Ev cp lo 35 [ptr db] H (fun r H'=>isRd A db wv ws r H' (binD ws a out)):=by
 have hlen:=hd.len
 refine st35 ?_;unfold bd35 cf35;simp only[kB,ctlB]
 repeat' ((first|refine xSDg ?_|refine xODg rfl ?_);(try simp only[ctlB]))
 refine xHDg ?_
 refine wpH_call0 (plnP hd hlo) ?_
 intro r H1 hr
 unfold binD
 rcases hr with ⟨ha,rfl,hx⟩|⟨ha,rfl,hd1⟩
 ·rw[if_pos ha]
  (try simp only[ctlB])
  repeat' ((first|refine xSDg ?_|refine xODg rfl ?_);(try simp only[ctlB]))
  refine xCDg (fun h=>?_) (fun h=>?_)
  ·(try simp only[ctlB])
   repeat' ((first|refine xSDg ?_|refine xODg rfl ?_);(try simp only[ctlB]))
   refine xRDg ?_
   exact⟨rfl,hx,by omega⟩
  ·exfalso;simp at h
 rw[if_neg (by omega)]
 have hnl:=unm_lt ws a
 generalize unm ws a=n at hnl ⊢
 (try simp only[ctlB])
 repeat' ((first|refine xSDg ?_|refine xODg rfl ?_);(try simp only[ctlB]))
 refine xCDg (fun h=>?_) (fun h=>?_)
 ·exfalso;simp at h
 clear h
 (try simp only[ctlB])
 by_cases h0:n=0
 ·have hdd:decide ((n:Int)=0)=true:=decide_eq_true (by omega)
  rw[if_pos h0]
  replace h0:n≤0:=by omega
  refine xCDg (fun h=>?_) (fun h=>?_)
  ·(try simp only[ctlB])
   repeat' ((first|refine xSDg ?_|refine xODg rfl ?_);(try simp only[ctlB]))
   refine xRDg ?_
   exact⟨rfl,hd1.ext,by omega⟩
  ·exfalso;simp at h
 have hdd:decide ((n:Int)=0)=false:=decide_eq_false (by omega)
 rw[if_neg h0]
 refine xCDg (fun h=>?_) (fun h=>?_)
 ·exfalso;simp at h
 clear h hdd
 (try simp only[ctlB])
 generalize hR:(if n<250 then runS ws n (a+1) out else if ws.length≤a+1 then .inl 10 else if 250≤unm ws (a+1) then .inl 22 else runS ws (250*(n-249)+unm ws (a+1)) (a+2) out)=R
 refine aw_midX (fun S' H'=>∃(q a':Nat),((Dc A H' db wv ws a' out∧a≤a')∧q≤2000)∧(False∨runS ws q a' out=R)∧∃(z:Nat→Value),S'=[ptr db,z 1,.int .i64 (q:Nat),z 3,z 4,z 5,z 6,z 7,z 8,z 9,z 10,z 11,z 12,z 13,z 14,z 15,z 16]) ?_ ?_
 ·by_cases h250:n<250
  ·have hdd:decide ((n:Int)≥250)=false:=decide_eq_false (by omega)
   rw[if_pos h250]at hR
   replace hR:False∨_:=.inr hR
   refine xCDg (fun h=>?_) (fun h=>?_)
   ·exfalso;simp at h
   ·clear h hdd
    (try simp only[ctlB])
    exact⟨n,a+1,⟨⟨hd1,by omega⟩,by omega⟩,hR,exZDe rfl⟩
  ·have hdd:decide ((n:Int)≥250)=true:=decide_eq_true (by omega)
   rw[if_neg h250]at hR
   replace hR:False∨_:=.inr hR
   refine xCDg (fun h=>?_) (fun h=>?_)
   ·clear h hdd
    (try simp only[ctlB])
    refine xHDg ?_
    refine wpH_call0 (plnP hd1 hlo) ?_
    intro r H2 hr
    rcases hr with ⟨ha2,rfl,hx⟩|⟨ha2,rfl,hd2⟩
    ·have h2:=hR.resolve_left id
     rw[if_pos ha2]at h2
     subst h2
     (try simp only[ctlB])
     repeat' ((first|refine xSDg ?_|refine xODg rfl ?_);(try simp only[ctlB]))
     refine xCDg (fun h=>?_) (fun h=>?_)
     ·(try simp only[ctlB])
      repeat' ((first|refine xSDg ?_|refine xODg rfl ?_);(try simp only[ctlB]))
      refine xRDg ?_
      exact⟨rfl,hx,by omega⟩
     ·exfalso;simp at h
    have h2:=hR.resolve_left id
    rw[if_neg (by omega)]at h2
    have hml:=unm_lt ws (a+1)
    generalize unm ws (a+1)=m at hml h2 ⊢
    clear hR
    replace h2:False∨_:=.inr h2
    (try simp only[ctlB])
    repeat' ((first|refine xSDg ?_|refine xODg rfl ?_);(try simp only[ctlB]))
    refine xCDg (fun h=>?_) (fun h=>?_)
    ·exfalso;simp at h
    clear h
    (try simp only[ctlB])
    by_cases hm:250≤m
    ·have hdd:decide ((m:Int)≥250)=true:=decide_eq_true (by omega)
     have h3:=h2.resolve_left id
     rw[if_pos hm]at h3
     subst h3
     refine xCDg (fun h=>?_) (fun h=>?_)
     ·(try simp only[ctlB])
      repeat' ((first|refine xSDg ?_|refine xODg rfl ?_);(try simp only[ctlB]))
      refine xRDg ?_
      exact⟨rfl,hd2.ext,by omega⟩
     ·exfalso;simp at h
    have hdd:decide ((m:Int)≥250)=false:=decide_eq_false (by omega)
    have h3:=h2.resolve_left id
    rw[if_neg hm]at h3
    replace h3:False∨_:=.inr h3
    clear h2
    have e1:250*((n:Int)-249)+(m:Nat)=((250*(n-249)+m:Nat):Int):=by omega
    have e2:250*(n-249)+m≤2000:=by omega
    generalize 250*(n-249)+m=q at e1 e2 h3
    refine xCDg (fun h=>?_) (fun h=>?_)
    ·exfalso;simp at h
    clear h hdd
    (try simp only[ctlB])
    repeat' ((first|refine xSDg ?_|refine xODg rfl ?_);(try simp only[ctlB]))
    exact⟨q,a+2,⟨⟨hd2,by omega⟩,e2⟩,h3,exZDe rfl⟩
   ·exfalso;simp at h
 ·rintro S' H2 ⟨q,a',⟨⟨hd2,haa⟩,hq⟩,hR2,z,rfl⟩
  clear hR hd1 hd
  (try simp only[ctlB])
  repeat' ((first|refine xSDg ?_|refine xODg rfl ?_);(try simp only[ctlB]))
  refine aw_for (fun k S H'=>∃(c:Nat) (o:List UInt8),((Dc A H' db wv ws c o∧(o.length+2*(ws.length-c)≤16400)))∧(False∨runS ws (q-k) c o=R)∧∃(z:Nat→Value),S=[ptr db,z 1,z 2,z 3,z 4,z 5,z 6,z 7,z 8,z 9,.int .i64 (q:Nat),.int .i64 (k:Nat),z 12,z 13,z 14,z 15,z 16]) q ⟨a',out,⟨hd2,by omega⟩,hR2,exZDe rfl⟩ ?_ ?_ ?_
  ·rintro k S H' hk ⟨c,o,h1,h2,z,rfl⟩
   exact⟨decide ((k:Int)<(q:Nat)),by simp(disch:=first|omega|(simp only[lenB];omega))only[evB,xBDc,Nat.reduceAdd,Nat.reduceBEq,Int.reduceToNat, *],by simp⟩
  ·rintro k S H4 hk ⟨c,o,⟨hd4,hB4⟩,hR4,z,rfl⟩
   clear hd2 hR2
   obtain⟨j,hj⟩:∃j,q-k=j+1:=⟨q-k-1,by omega⟩
   have hj2:q-(k+1)=j:=by omega
   rw[hj]at hR4
   rw[hj2]
   have hR5:False∨(if ws.length≤c then .inl 10 else runS ws j (c+1) (o++[UInt8.ofNat (unm ws c)]))=R:=hR4
   clear hR4 hj hj2
   (try simp only[ctlB])
   refine xHDg ?_
   refine wpH_call0 (plnP hd4 hlo) ?_
   intro r H5 hr
   rcases hr with ⟨ha2,rfl,hx⟩|⟨ha2,rfl,hd5⟩
   ·have h2:=hR5.resolve_left id
    rw[if_pos ha2]at h2
    subst h2
    (try simp only[ctlB])
    repeat' ((first|refine xSDg ?_|refine xODg rfl ?_);(try simp only[ctlB]))
    refine xCDg (fun h=>?_) (fun h=>?_)
    ·(try simp only[ctlB])
     repeat' ((first|refine xSDg ?_|refine xODg rfl ?_);(try simp only[ctlB]))
     refine xRDg ?_
     exact⟨rfl,hx,by omega⟩
    ·exfalso;simp at h
   have h2:=hR5.resolve_left id
   rw[if_neg (by omega)]at h2
   have hml:=unm_lt ws c
   generalize unm ws c=m at hml h2 ⊢
   clear hR5 hd4
   replace h2:False∨_:=.inr h2
   obtain⟨ov,b,⟨hg,hne⟩,ho⟩:=hd5.g
   have hlx:=hd5.ext.1
   have hdA:=hd5.dbA
   have hdl:=Heap.get_lt hg
   clear ho
   (try simp only[ctlB])
   repeat' ((first|refine xSDg ?_|refine xODg rfl ?_);(try simp only[ctlB]))
   refine xCDg (fun h=>?_) (fun h=>?_)
   ·exfalso;simp at h
   clear h
   (try simp only[ctlB])
   repeat' ((first|refine xSDg ?_|refine xODg rfl ?_);(try simp only[ctlB]))
   rw[←encU_of (n:=m) (by omega)]
   refine xHDg ?_
   refine dcApp (n:=1) (l:=[UInt8.ofNat m]) hd5 hg hlo rfl (by omega) (by omega) ?_
   intro ad m' H6 hg6 hl6 hd6
   (try simp only[ctlB])
   repeat' ((first|refine xSDg ?_|refine xODg rfl ?_);(try simp only[ctlB]))
   exact⟨c+1,o++[UInt8.ofNat m],⟨hd6,by simp;omega⟩,h2,exZDe (by first|rfl|(simp only[Int.natCast_add,Int.natCast_one];rfl)|simp only[Int.natCast_add,Int.natCast_one])⟩
  ·rintro S H4 ⟨c,o,⟨hd4,hB4⟩,hR4,z,rfl⟩
   rw[Nat.sub_self]at hR4
   have h2:Sum.inr (c,o)=R:=hR4.resolve_left id
   subst h2
   (try simp only[ctlB])
   repeat' ((first|refine xSDg ?_|refine xODg rfl ?_);(try simp only[ctlB]))
   refine xRDg ?_
   exact⟨rfl,hd4⟩
end
end Go.Proofs.Ythnflhimcmdnbaa
