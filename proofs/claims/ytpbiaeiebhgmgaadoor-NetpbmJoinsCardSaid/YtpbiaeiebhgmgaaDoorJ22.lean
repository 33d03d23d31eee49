/- Netpbm: what Write wrote, Read reads back (plain facts). Netpbm: the bodies that Write wrote, read back (plain facts). Netpbm: a file, read back; a file cut short (plain facts). -/
import Derived.Test.YtpbiaeiebhgmgaaDoorJ21
set_option linter.unusedVariables false
set_option linter.unusedSimpArgs false
set_option linter.unusedSectionVars false
namespace Go.Proofs.YtpbiaeiebhgmgaaDoor
open Go.Abs
set_option linter.unusedSimpArgs false
set_option linter.unusedVariables false
def At(l:List UInt8)(i:Nat)(s:List UInt8):Prop:=s <+: l.drop i
theorem At.left{l:List UInt8}{i:Nat}{s t:List UInt8}(h:At l i (s++t)):At l i s:=(List.prefix_append s t).trans h
theorem At.right{l:List UInt8}{i:Nat}{s t:List UInt8}(h:At l i (s++t)):At l (i+s.length) t:=by
 obtain⟨r,hr⟩:=h
 refine⟨r,?_⟩
 rw[←List.drop_drop,←hr,List.append_assoc,List.drop_left]
theorem At.cons{l:List UInt8}{i:Nat}{c:UInt8}{t:List UInt8}(h:At l i (c::t)):i<l.length∧l.getD i 0=c∧At l (i+1) t:=by
 have h2:At l i ([c]++t):=h
 obtain⟨r,hr⟩:=h
 have e0:(l.drop i)[0]?=some c:=by rw[←hr];rfl
 rw[List.getElem?_drop,Nat.add_zero]at e0
 refine⟨?_,by rw[List.getD_eq_getElem?_getD,e0];rfl,h2.right⟩
 exact(List.getElem?_eq_some_iff.1 e0).1
theorem At.all(a s b:List UInt8):At (a++s++b) a.length s:=by
 refine⟨b,?_⟩
 rw[List.append_assoc,List.drop_left]
theorem At.le{l:List UInt8}{i:Nat}{s:List UInt8}(h:At l i s):i+s.length≤l.length∨s=[]:=by
 obtain⟨r,hr⟩:=h
 have:=congrArg List.length hr
 simp at this
 by_cases e:s=[]
 ·exact .inr e
 ·have:0<s.length:=List.length_pos_iff.2 e
  exact .inl (by omega)
theorem At.get{l:List UInt8}{i:Nat}{s:List UInt8}(h:At l i s){k:Nat}(hk:k<s.length):l.getD (i+k) 0=s.getD k 0:=by
 obtain⟨r,hr⟩:=h
 have e0:(l.drop i)[k]?=s[k]?:=by rw[←hr,List.getElem?_append_left hk]
 rw[List.getElem?_drop]at e0
 simp only[List.getD_eq_getElem?_getD,e0]
theorem skip_no{l:List UInt8}{i:Nat}{c:UInt8}{t:List UInt8}(h:At l i (c::t))(hc:isSep c=false):skipS l i=i:=by
 obtain⟨h1,h2,_⟩:=h.cons
 exact skip_end (by rw[h2,hc];rintro⟨_,h⟩;cases h)
theorem skip_w{l:List UInt8}{i:Nat}{c:UInt8}{t:List UInt8}(h:At l i (c::t))(hc:isSep c=true)(h35:¬ (c.toNat:Int)=35):skipS l i=skipS l (i+1):=by
 obtain⟨h1,h2,_⟩:=h.cons
 exact skip_ws h1 (by rw[h2];exact hc) (by rw[h2];exact h35)
theorem eol_at{l:List UInt8}:∀(com:List UInt8) (i:Nat),At l i (com++[10])→(∀c ∈ com,c≠10∧c≠13)→eol l i=i+com.length
 | [],i,h,_=>by
  obtain⟨h1,h2,_⟩:=At.cons h
  exact eol_end (by rw[h2];rintro⟨_,h,_⟩;exact h rfl)
 | c::com,i,h,hc=>by
  obtain⟨h1,h2,h3⟩:=At.cons h
  obtain⟨n1,n2⟩:=hc c (by simp)
  have ih:=eol_at com (i+1) h3 (fun d hd=>hc d (by simp[hd]))
  rw[eol_go h1 (by rw[h2];intro e;exact n1 (UInt8.toNat_inj.1 (show c.toNat=10 by omega))) (by rw[h2];intro e;exact n2 (UInt8.toNat_inj.1 (show c.toNat=13 by omega))),ih]
  simp only[List.length_cons];omega
theorem dig_isDig{n:Nat}(h:n<10):isDig (dig n)=true:=by
 have:=dig_nat h
 unfold isDig
 rw[this]
 simp;omega
theorem dig_val{n:Nat}(h:n<10):(dig n).toNat-48=n:=by
 have:=dig_nat h
 omega
theorem digs_at{l:List UInt8}:∀(n i:Nat),n≤65536→At l i (decL n)→digS l i 0=digS l (i+(decL n).length) n:=by
 intro n
 induction n using Nat.strongRecOn with
 | ind n ih=>
  intro i hn h
  by_cases hlt:n<10
  ·rw[decL_lt hlt]at h ⊢
   obtain⟨h1,h2,_⟩:=h.cons
   rw[digS_go h1 (by rw[h2];exact dig_isDig hlt),h2,dig_val hlt]
   have:min (10*0+n) 65536=n:=by omega
   rw[this];rfl
  ·rw[decL_ge (by omega)]at h ⊢
   have h1:=ih (n/10) (by omega) i (by omega) h.left
   rw[h1]
   have hm:n%10<10:=by omega
   obtain⟨h3,h4,_⟩:=h.right.cons
   rw[digS_go h3 (by rw[h4];exact dig_isDig hm),h4,dig_val hm]
   have:min (10*(n/10)+n%10) 65536=n:=by omega
   rw[this,List.length_append];rfl
theorem digs_end{l:List UInt8}{n i:Nat}{c:UInt8}{t:List UInt8}(hn:n≤65536)(h:At l i (decL n++c::t))(hc:isDig c=false):digS l i 0=(n,i+(decL n).length):=by
 rw[digs_at n i hn h.left]
 obtain⟨h1,h2,_⟩:=h.right.cons
 exact digS_end (by rw[h2,hc];rintro⟨_,h⟩;cases h)
theorem decL_head:∀n:Nat,∃m t,m<10∧decL n=dig m::t:=by
 intro n
 induction n using Nat.strongRecOn with
 | ind n ih=>
  by_cases hlt:n<10
  ·exact⟨n,[],hlt,decL_lt hlt⟩
  ·obtain⟨m,t,hm,e⟩:=ih (n/10) (by omega)
   exact⟨m,t++[dig (n%10)],hm,by rw[decL_ge (by omega),e];rfl⟩
theorem dig_sep{n:Nat}(h:n<10):isSep (dig n)=false:=by
 have:=dig_nat h
 unfold isSep wsB
 rw[this]
 simp;omega
theorem numS_at{l:List UInt8}{i s n:Nat}{c:UInt8}{t:List UInt8}(hi:i<l.length)(hw:isSep (l.getD i 0)=true)(hs:skipS l i=s)(hn:n≤65536)(h:At l s (decL n++c::t))(hc:isDig c=false):numS l i=.inr (n,s+(decL n).length):=by
 obtain⟨m,t',hm,e⟩:=decL_head n
 have h0:=h.left
 rw[e]at h0
 obtain⟨h1,h2,_⟩:=h0.cons
 unfold numS
 rw[if_neg (by omega),if_neg (by rw[hw];decide),hs,if_neg (by omega),if_neg (by rw[h2,dig_isDig hm];decide),digs_end hn h hc]
theorem hdrS_at{l:List UInt8}{i s n a b:Nat}{c:UInt8}{t:List UInt8}(hi:i<l.length)(hw:isSep (l.getD i 0)=true)(hs:skipS l i=s)(ha:a≤n)(hb:n≤b)(hn:n≤65536)(h:At l s (decL n++c::t))(hc:isDig c=false):hdrS l i a b=.inr (n,s+(decL n).length):=by
 unfold hdrS
 rw[numS_at hi hw hs hn h hc]
 obtain⟨h1,_,_⟩:=h.right.cons
 simp only
 rw[if_neg (by omega),if_pos ⟨ha,hb⟩]
theorem hdrS_one{l:List UInt8}{i n a b:Nat}{w c:UInt8}{t:List UInt8}(hw:isSep w=true)(h35:¬ (w.toNat:Int)=35)(ha:a≤n)(hb:n≤b)(hn:n≤65536)(h:At l i (w::(decL n++c::t)))(hc:isDig c=false):hdrS l i a b=.inr (n,i+1+(decL n).length):=by
 obtain⟨h1,h2,h3⟩:=h.cons
 obtain⟨m,t',hm,e⟩:=decL_head n
 have h4:=h3.left
 rw[e]at h4
 refine hdrS_at h1 (by rw[h2];exact hw) ?_ ha hb hn h3 hc
 rw[skip_w h hw h35,skip_no h4 (dig_sep hm)]
theorem numS_one{l:List UInt8}{i n:Nat}{w c:UInt8}{t:List UInt8}(hw:isSep w=true)(h35:¬ (w.toNat:Int)=35)(hn:n≤65536)(h:At l i (w::(decL n++c::t)))(hc:isDig c=false):numS l i=.inr (n,i+1+(decL n).length):=by
 obtain⟨h1,h2,h3⟩:=h.cons
 obtain⟨m,t',hm,e⟩:=decL_head n
 have h4:=h3.left
 rw[e]at h4
 refine numS_at h1 (by rw[h2];exact hw) ?_ hn h3 hc
 rw[skip_w h hw h35,skip_no h4 (dig_sep hm)]
def isRem(d:List UInt8):Prop:=d=[]∨∃com,d=35::(com++[10])∧∀c ∈ com,c≠10∧c≠13
theorem skip_d{l d:List UInt8}(hd:isRem d){i:Nat}{c:UInt8}{t:List UInt8}(h:At l i (10::(d++c::t)))(hc:isSep c=false):skipS l i=i+1+d.length:=by
 rw[skip_w h rfl (by decide)]
 obtain⟨_,_,h1⟩:=h.cons
 rcases hd with rfl|⟨com,rfl,hcom⟩
 ·exact skip_no h1 hc
 ·obtain⟨h2,h3,h4⟩:=At.cons h1.left
  have h5:=eol_at com (i+1+1) h4 hcom
  have h7:=h1.right
  have h6:=h4.right
  have e1:eol l (i+1)=eol l (i+1+1):=by
   rw[eol_go h2 (by rw[h3];decide) (by rw[h3];decide)]
  rw[skip_rem h2 (by rw[h3];rfl),e1,h5,skip_w h6 rfl (by decide)]
  have e2:i+1+1+com.length+1=i+1+(35::(com++[10])).length:=by simp;omega
  rw[e2]
  exact skip_no h7 hc
def headD(f w h:Nat)(d:List UInt8):List UInt8:=[80,dig f,10]++d++decL w++[32]++decL h++(if f=2∨f=5 then[10,50,53,53] else[])
theorem dec255:decL 255=[50,53,53]:=by decide +kernel
theorem headS_at{l d:List UInt8}{f w h:Nat}(hf:f=1∨f=2∨f=4∨f=5)(hd:isRem d)(hp:posB w h=true)(hw:w≤4096)(hh:h≤4096)(ha:At l 0 (headD f w h d++[10])):headS l f=.inr (w,h,if f=2∨f=5 then 255 else 1,(headD f w h d).length):=by
 have h0:At l 0 ([80,dig f]++([10]++(d++(decL w++([32]++(decL h++((if f=2∨f=5 then[10,50,53,53] else[])++[10]))))))):=by
  simpa[headD]using ha
 have h1:At l 2 (10::(d++(decL w++(32::(decL h++((if f=2∨f=5 then[10,50,53,53] else[])++[10])))))):=h0.right
 obtain⟨m,t',hm,e⟩:=decL_head w
 have hs:skipS l 2=2+1+d.length:=by
  rw[e]at h1
  exact skip_d hd h1 (dig_sep hm)
 obtain⟨g1,g2,g3⟩:=h1.cons
 have h2:=g3.right
 have e1:hdrS l 2 0 65535=.inr (w,2+1+d.length+(decL w).length):=hdrS_at g1 (by rw[g2];rfl) hs (by omega) (by omega) (by omega) h2 (by rfl)
 have h3:=h2.right
 have e2:∃c t,(if f=2∨f=5 then[10,50,53,53] else[])++[10]=c::t∧isDig c=false:=by
  split
  ·exact⟨_,_,rfl,rfl⟩
  ·exact⟨_,_,rfl,rfl⟩
 obtain⟨c,t,e2,hc⟩:=e2
 rw[e2]at h3
 have e3:=hdrS_one (a:=0) (b:=65535) rfl (by decide) (by omega) (by omega) (by omega) h3 hc
 have h4:=(h3.cons).2.2.right
 rw[←e2]at h4
 unfold headS
 rw[e1]
 simp only
 rw[e3]
 simp only[hp]
 by_cases h25:f=2∨f=5
 ·simp only[if_pos h25]at h4 ⊢
  have h5:At l (2+1+d.length+(decL w).length+1+(decL h).length) (10::(decL 255++[10])):=by rw[dec255];exact h4
  rw[hdrS_one (a:=1) (b:=255) rfl (by decide) (by omega) (by omega) (by omega) h5 rfl]
  simp[headD,dec255,h25]
  omega
 ·simp only[if_neg h25]at h4 ⊢
  simp[headD,h25]
  omega
end Go.Proofs.YtpbiaeiebhgmgaaDoor
namespace Go.Proofs.YtpbiaeiebhgmgaaDoor
open Go.Abs
set_option linter.unusedSimpArgs false
set_option linter.unusedVariables false
theorem iter_front{α:Type}{step:α→Int ⊕ α}{a y:α}(h:step a=.inr y):∀m,iterS step a (m+1)=iterS step y m
 | 0=>by rw[iterS,iterS];exact h
 | m+1=>by rw[iterS,iter_front h m];rfl
theorem iter_add{α:Type}{step:α→Int ⊕ α}{a y:α}{k:Nat}(h:iterS step a k=.inr y):∀m,iterS step a (k+m)=iterS step y m
 | 0=>h
 | m+1=>by rw[←Nat.add_assoc,iterS,iter_add h m];rfl
def restQ(f:Nat)(r:List UInt8):Nat→Nat→List UInt8
 | _,0=>[]
 | k,m+1=>(if k=0 then[10] else sepB f k)++(itemB f (r.getD k 0)++restQ f r (k+1) m)
theorem rowB_rest(f:Nat)(r:List UInt8):∀m k,1≤k→rowB f r (k+m)=rowB f r k++restQ f r k m
 | 0,k,_=>by simp[restQ]
 | m+1,k,hk=>by
  have e:k+(m+1)=k+1+m:=by omega
  rw[e,rowB_rest f r m (k+1) (by omega),rowB,restQ,if_neg (by omega)]
  simp only[List.append_assoc]
theorem row_rest{f:Nat}{r:List UInt8}{n:Nat}(h:1≤n):10::rowB f r n=restQ f r 0 n:=by
 obtain⟨m,rfl⟩:∃m,n=1+m:=⟨n-1,by omega⟩
 rw[rowB_rest f r m 1 (Nat.le_refl _)]
 have e:1+m=m+1:=by omega
 rw[e,restQ,if_pos rfl]
 simp[rowB,sepB]
theorem take_one{r:List UInt8}{k m:Nat}(h:k<r.length):(r.drop k).take (m+1)=r.getD k 0::(r.drop (k+1)).take m:=by
 rw[List.drop_eq_getElem_cons h,List.take_succ_cons,List.getD_eq_getElem?_getD,List.getElem?_eq_getElem h];rfl
theorem sep1(k:Nat):(if k=0 then[10] else sepB 1 k)=[]∨(if k=0 then[10] else sepB 1 k)=[(10:UInt8)]:=by
 unfold sepB
 split
 ·exact .inr rfl
 ·simp only[if_true]
  split
  ·exact .inr rfl
  ·exact .inl rfl
theorem sep2(k:Nat):∃w:UInt8,(if k=0 then[10] else sepB 2 k)=[w]∧isSep w=true∧¬ (w.toNat:Int)=35∧isDig w=false:=by
 unfold sepB
 split
 ·exact⟨10,rfl,rfl,by decide,rfl⟩
 ·rw[if_neg (by decide)]
  split
  ·exact⟨10,rfl,rfl,by decide,rfl⟩
  ·exact⟨32,rfl,rfl,by decide,rfl⟩
theorem bits_rest{l r:List UInt8}(hr:∀i,i<r.length→r.getD i 0=0∨r.getD i 0=255):∀(m k q:Nat) (acc:List UInt8),k+m≤r.length→At l q (restQ 1 r k m)→iterS (stepB l) (acc,q) m=.inr (acc++(r.drop k).take m,q+(restQ 1 r k m).length)
 | 0,k,q,acc,_,_=>by simp[iterS,restQ]
 | m+1,k,q,acc,hk,h=>by
  rw[restQ]at h ⊢
  obtain⟨b,hb,hs⟩:∃b:UInt8,itemB 1 (r.getD k 0)=[b]∧((r.getD k 0=0∧b=49)∨(r.getD k 0=255∧b=48)):=by
   rcases hr k (by omega)with e|e
   ·exact⟨49,by rw[e];rfl,.inl ⟨e,rfl⟩⟩
   ·exact⟨48,by rw[e];rfl,.inr ⟨e,rfl⟩⟩
  rw[hb]at h ⊢
  have hbs:isSep b=false:=by rcases hs with ⟨_,rfl⟩|⟨_,rfl⟩<;>rfl
  have hsk:skipS l q=q+(if k=0 then[10] else sepB 1 k).length:=by
   rcases sep1 k with e|e
   ·rw[e]at h ⊢
    exact skip_no h hbs
   ·rw[e]at h ⊢
    rw[skip_w h rfl (by decide)]
    exact skip_no (h.cons).2.2 hbs
  have h2:=h.right
  obtain⟨h3,h4,h5⟩:=At.cons h2
  have hst:stepB l (acc,q)=.inr (acc++[r.getD k 0],q+(if k=0 then[10] else sepB 1 k).length+1):=by
   unfold stepB
   simp only[hsk]
   rw[if_neg (by omega),h4]
   rcases hs with ⟨e,rfl⟩|⟨e,rfl⟩
   ·rw[if_neg (by decide),if_pos (by decide),e]
   ·rw[if_pos (by decide),e]
  rw[iter_front hst,bits_rest hr m (k+1) _ _ (by omega) h5,take_one (by omega)]
  simp
  omega
theorem rest_head{r:List UInt8}{k m:Nat}{t:List UInt8}:∃c t',restQ 2 r k m++10::t=c::t'∧isDig c=false:=by
 cases m with
 | zero=>exact⟨10,t,rfl,rfl⟩
 | succ m=>
  obtain⟨w,e,_,_,hd⟩:=sep2 k
  rw[restQ,e]
  exact⟨w,_,rfl,hd⟩
theorem scal_255{c:UInt8}:scal c.toNat 255=c:=by
 have:=c.toNat_lt
 unfold scal
 rw[show(255*c.toNat+255/2)/255=c.toNat by omega]
 simp
theorem vals_rest{l r:List UInt8}:∀(m k q:Nat) (acc t:List UInt8),k+m≤r.length→At l q (restQ 2 r k m++10::t)→iterS (stepV l 255) (acc,q) m=.inr (acc++(r.drop k).take m,q+(restQ 2 r k m).length)
 | 0,k,q,acc,t,_,_=>by simp[iterS,restQ]
 | m+1,k,q,acc,t,hk,h=>by
  obtain⟨w,e,hw,h35,_⟩:=sep2 k
  rw[restQ,e]at h
  rw[restQ,e]
  have ei:itemB 2 (r.getD k 0)=decL (r.getD k 0).toNat:=rfl
  rw[ei]at h ⊢
  obtain⟨c,t',ec,hc⟩:=rest_head (r:=r) (k:=k+1) (m:=m) (t:=t)
  have h1:At l q (w::(decL (r.getD k 0).toNat++c::t')):=by
   rw[←ec];simpa using h
  have hlt:=(r.getD k 0).toNat_lt
  have h2:=numS_one hw h35 (by omega) h1 hc
  have h3:=(h1.cons).2.2.right
  rw[←ec]at h3
  have hst:stepV l 255 (acc,q)=.inr (acc++[r.getD k 0],q+1+(decL (r.getD k 0).toNat).length):=by
   unfold stepV
   rw[h2]
   simp only
   rw[if_pos (by omega),scal_255]
  rw[iter_front hst,vals_rest m (k+1) _ _ t (by omega) h3,take_one (by omega)]
  simp
  omega
theorem rowsW_pre{f w:Nat}{px:List UInt8}{y:Nat}:∀{h},y≤h→rowsW f w px y <+: rowsW f w px h
 | 0,hy=>by
  obtain rfl:y=0:=by omega
  exact List.prefix_refl _
 | h+1,hy=>by
  by_cases e:y=h+1
  ·rw[e];exact List.prefix_refl _
  ·exact(rowsW_pre (by omega)).trans (List.prefix_append _ _)
theorem rowW_plain{f:Nat}{r:List UInt8}(hf:f=1∨f=2)(h:1≤r.length):rowW f r=rowB f r r.length++[10]:=by
 unfold rowW rowP
 rw[if_pos (by omega),if_pos ⟨rfl,by omega⟩]
theorem row_len{px:List UInt8}{w h y:Nat}(hl:px.length=w*h)(hy:y<h):((px.drop (y*w)).take w).length=w:=by
 rw[List.length_take,List.length_drop,hl]
 have:(y+1)*w≤w*h:=by rw[Nat.mul_comm w h];exact Nat.mul_le_mul_right _ hy
 rw[Nat.succ_mul]at this
 omega
theorem rows_at{l px:List UInt8}{f w h j:Nat}(hf:f=1∨f=2)(hw:1≤w)(hl:px.length=w*h)(ha:At l j (10::rowsW f w px h)){y:Nat}(hy:y<h) :
  At l (j+(rowsW f w px y).length) (10::(rowB f ((px.drop (y*w)).take w) w++[10])):=by
 have hrl:=row_len hl hy
 have h1:At l j ([10]++rowsW f w px (y+1)):=by
  have:[10]++rowsW f w px (y+1) <+: 10::rowsW f w px h:=by
   show 10::_ <+: _
   exact(List.prefix_cons_inj 10).2 (rowsW_pre (by omega))
  exact this.trans ha
 rw[rowsW,rowW_plain hf (by omega),hrl,←List.append_assoc]at h1
 cases y with
 | zero=>
  simp only[rowsW,List.append_nil,List.length_nil,Nat.add_zero]at h1 ⊢
  exact h1
 | succ y=>
  have hrl2:=row_len hl (show y<h by omega)
  rw[rowsW,rowW_plain hf (by omega),hrl2]at h1 ⊢
  have e:[10]++(rowsW f w px y++(rowB f ((px.drop (y*w)).take w) w++[10]))++(rowB f ((px.drop ((y+1)*w)).take w) w++[10])=([10]++rowsW f w px y++rowB f ((px.drop (y*w)).take w) w)++([10]++(rowB f ((px.drop ((y+1)*w)).take w) w++[10])):=by simp only[List.append_assoc]
  rw[e]at h1
  have h2:=h1.right
  have el:j+([10]++rowsW f w px y++rowB f ((px.drop (y*w)).take w) w).length=j+(rowsW f w px y++(rowB f ((px.drop (y*w)).take w) w++[10])).length:=by simp;omega
  rw[el]at h2
  exact h2
theorem rowsW_succ_len{px:List UInt8}{f w h y:Nat}(hf:f=1∨f=2)(hw:1≤w)(hl:px.length=w*h)(hy:y<h):(rowsW f w px (y+1)).length=(rowsW f w px y).length+(restQ f ((px.drop (y*w)).take w) 0 w).length:=by
 have hrl:=row_len hl hy
 rw[rowsW,rowW_plain hf (by omega),hrl,←row_rest hw]
 simp
theorem getD_row{px:List UInt8}{a w i:Nat}(hi:i<w):((px.drop a).take w).getD i 0=px.getD (a+i) 0:=by
 simp only[List.getD_eq_getElem?_getD,List.getElem?_take,if_pos hi,List.getElem?_drop]
theorem bits_rows{l px:List UInt8}{w h j:Nat}(hw:1≤w)(hl:px.length=w*h)(hb:∀i,i<px.length→px.getD i 0=0∨px.getD i 0=255)(ha:At l j (10::rowsW 1 w px h)):∀y,y≤h→iterS (stepB l) ([],j) (y*w)=.inr (px.take (y*w),j+(rowsW 1 w px y).length)
 | 0,_=>by simp[iterS,rowsW]
 | y+1,hy=>by
  have hrl:=row_len hl (show y<h by omega)
  have h1:=rows_at (f:=1) (.inl rfl) hw hl ha (y:=y) (by omega)
  rw[←List.cons_append,row_rest hw]at h1
  have hlt:(y+1)*w≤w*h:=by rw[Nat.mul_comm w h];exact Nat.mul_le_mul_right _ hy
  have h2:=bits_rest (r:=(px.drop (y*w)).take w) (fun i hi=>by rw[hrl]at hi;rw[getD_row hi];exact hb _ (by rw[hl];rw[Nat.succ_mul]at hlt;omega)) w 0 _ (px.take (y*w)) (by omega) h1.left
  rw[Nat.succ_mul,iter_add (bits_rows hw hl hb ha y (by omega)),h2,rowsW_succ_len (.inl rfl) hw hl (by omega)]
  rw[List.drop_zero,List.take_take,Nat.min_self,←List.take_add,Nat.add_assoc]
theorem vals_rows{l px:List UInt8}{w h j:Nat}(hw:1≤w)(hl:px.length=w*h)(ha:At l j (10::rowsW 2 w px h)):∀y,y≤h→iterS (stepV l 255) ([],j) (y*w)=.inr (px.take (y*w),j+(rowsW 2 w px y).length)
 | 0,_=>by simp[iterS,rowsW]
 | y+1,hy=>by
  have hrl:=row_len hl (show y<h by omega)
  have h1:=rows_at (f:=2) (.inr rfl) hw hl ha (y:=y) (by omega)
  rw[←List.cons_append,row_rest hw]at h1
  have h2:=vals_rest (r:=(px.drop (y*w)).take w) w 0 _ (px.take (y*w)) [] (by omega) h1
  rw[Nat.succ_mul,iter_add (vals_rows hw hl ha y (by omega)),h2,rowsW_succ_len (.inr rfl) hw hl (by omega)]
  rw[List.drop_zero,List.take_take,Nat.min_self,←List.take_add,Nat.add_assoc]
theorem rowsW_raw{px:List UInt8}{w:Nat}:∀y,rowsW 5 w px y=px.take (y*w)
 | 0=>by simp[rowsW]
 | y+1=>by
  rw[rowsW,rowsW_raw y,Nat.succ_mul,List.take_add]
  rfl
theorem raws_at{l px:List UInt8}{i:Nat}(h:At l i px):∀k,k≤px.length→iterS (stepR l 255) ([],i) k=.inr (px.take k,i+k)
 | 0,_=>by simp[iterS]
 | k+1,hk=>by
  rw[iter_ok (raws_at h k (by omega))]
  have hg:=h.get (k:=k) (by omega)
  have hlt:=(px.getD k 0).toNat_lt
  unfold stepR
  simp only[hg]
  rw[if_pos (by omega),scal_255,Nat.add_assoc]
  congr 2
  have e:=List.take_add_one (l:=px) (i:=k)
  rw[e,List.getD_eq_getElem?_getD,List.getElem?_eq_getElem (by omega)]
  rfl
theorem byK_bit(r:List UInt8)(k j t:Nat)(ht:t<8):byK r k j/2^(7-t)%2=bt r k (8*j+t):=by
 have h0:=bt_le r k (8*j);have h1:=bt_le r k (8*j+1);have h2:=bt_le r k (8*j+2);have h3:=bt_le r k (8*j+3)
 have h4:=bt_le r k (8*j+4);have h5:=bt_le r k (8*j+5);have h6:=bt_le r k (8*j+6);have h7:=bt_le r k (8*j+7)
 unfold byK
 obtain rfl|rfl|rfl|rfl|rfl|rfl|rfl|rfl:t=0∨t=1∨t=2∨t=3∨t=4∨t=5∨t=6∨t=7:=by omega
 all_goals simp only[Nat.add_zero,Nat.reduceSub,Nat.reducePow];omega
theorem bitQ_pk{r:List UInt8}{k j t:Nat}(ht:t<8):bitQ (UInt8.ofNat (byK r k j)) t=decide (bt r k (8*j+t)=1):=by
 unfold bitQ
 rw[UInt8.toNat_ofNat_of_lt' (by exact byK_lt r k j),byK_bit r k j t ht]
theorem pkI_at{r:List UInt8}{k j n:Nat}(h:j<n):(pkI r k n).getD j 0=UInt8.ofNat (byK r k j):=by
 unfold pkI
 simp[List.getD_eq_getElem?_getD,h]
theorem rowsW4_len{px:List UInt8}{w h:Nat}(hl:px.length=w*h):∀y,y≤h→(rowsW 4 w px y).length=y*((w+7)/8)
 | 0,_=>by simp[rowsW]
 | y+1,hy=>by
  have hrl:=row_len hl (show y<h by omega)
  rw[rowsW,List.length_append,rowsW4_len hl y (by omega),Nat.succ_mul]
  unfold rowW
  rw[if_neg (by decide),if_neg (by decide),pkI_len,hrl]
theorem rowQ_at{l r:List UInt8}{p st y w:Nat}(hw:r.length=w)(hst:st=(w+7)/8)(hb:∀i,i<w→r.getD i 0=0∨r.getD i 0=255)(ha:At l (p+y*st) (pkI r w st)):∀x,x≤w→rowQ l p st y x=r.take x
 | 0,_=>by simp[rowQ]
 | x+1,hx=>by
  have e8:8*(x/8)+x%8=x:=by omega
  have hj:x/8<st:=by omega
  have hg:=ha.get (k:=x/8) (by rw[pkI_len];exact hj)
  rw[pkI_at hj,Nat.add_assoc]at hg
  rw[rowQ,rowQ_at hw hst hb ha x (by omega)]
  have e:=List.take_add_one (l:=r) (i:=x)
  rw[e]
  congr 1
  rw[List.getElem?_eq_getElem (by omega)]
  have hrx:r.getD x 0=r[x]'(by omega):=by rw[List.getD_eq_getElem?_getD,List.getElem?_eq_getElem (by omega)];rfl
  have hrx1:r.getD x 1=r[x]'(by omega):=by rw[List.getD_eq_getElem?_getD,List.getElem?_eq_getElem (by omega)];rfl
  unfold pixQ
  rw[hg,bitQ_pk (by omega),e8]
  unfold bt
  rw[hrx1]
  rcases hb x (by omega)with h0|h0
  ·rw[hrx]at h0
   rw[h0];simp;omega
  ·rw[hrx]at h0
   rw[h0];simp
theorem rowsQ_at{l px:List UInt8}{w h p:Nat}(hw:1≤w)(hl:px.length=w*h)(hb:∀i,i<px.length→px.getD i 0=0∨px.getD i 0=255)(ha:At l p (rowsW 4 w px h)):∀y,y≤h→rowsQ l p ((w+7)/8) w y=px.take (y*w)
 | 0,_=>by simp[rowsQ]
 | y+1,hy=>by
  have hrl:=row_len hl (show y<h by omega)
  have hlt:(y+1)*w≤w*h:=by rw[Nat.mul_comm w h];exact Nat.mul_le_mul_right _ hy
  have h1:At l p (rowsW 4 w px y++rowW 4 ((px.drop (y*w)).take w)):=(rowsW_pre (y:=y+1) hy).trans ha
  have h2:=h1.right
  rw[rowsW4_len hl y (by omega)]at h2
  unfold rowW at h2
  rw[if_neg (by decide),if_neg (by decide),hrl]at h2
  rw[rowsQ,rowsQ_at hw hl hb ha y (by omega),rowQ_at hrl rfl (fun i hi=>by rw[getD_row hi];exact hb _ (by rw[hl];rw[Nat.succ_mul]at hlt;omega)) h2 w (Nat.le_refl _),Nat.succ_mul,List.take_add,List.take_take,Nat.min_self]
end Go.Proofs.YtpbiaeiebhgmgaaDoor
namespace Go.Proofs.YtpbiaeiebhgmgaaDoor
open Go.Abs
set_option linter.unusedSimpArgs false
set_option linter.unusedVariables false
theorem headB_D(f w h:Nat):headB f w h=headD f w h []++[10]:=by
 unfold headB headD
 by_cases h25:f=2∨f=5
 ·simp[h25]
 ·simp[h25]
def cntS(f w h:Nat)(d px:List UInt8):Nat:=(headD f w h d).length+(if f≤2 then 0 else 1)+(rowsW f w px h).length
theorem lf_at{l px:List UInt8}{f w h j:Nat}(hf:f=1∨f=2)(hw:1≤w)(hh:1≤h)(hl:px.length=w*h)(ha:At l j (10::rowsW f w px h)):At l (j+(rowsW f w px h).length) [10]:=by
 obtain⟨y,rfl⟩:∃y,h=y+1:=⟨h-1,by omega⟩
 have hrl:=row_len hl (show y<y+1 by omega)
 have h1:=rows_at hf hw hl ha (y:=y) (by omega)
 rw[←List.cons_append]at h1
 have h2:=h1.right
 rw[rowsW,rowW_plain hf (by omega),hrl]
 have e:j+(rowsW f w px y).length+(10::rowB f ((px.drop (y*w)).take w) w).length=j+(rowsW f w px y++(rowB f ((px.drop (y*w)).take w) w++[10])).length:=by simp;omega
 rw[e]at h2
 exact h2
theorem goodPx{f:Nat}{px:List UInt8}(hf:f=1∨f=4)(h:¬ badPx f px):∀i,i<px.length→px.getD i 0=0∨px.getD i 0=255:=by
 intro i hi
 by_cases h0:px.getD i 0=0
 ·exact .inl h0
 ·by_cases h1:px.getD i 0=255
  ·exact .inr h1
  ·exact absurd ⟨hf,i,hi,h0,h1⟩ h
theorem bodyS_at{l px:List UInt8}{f w h j:Nat}(hf:f=1∨f=2∨f=4∨f=5)(hw:1≤w)(hh:1≤h)(hl:px.length=w*h)(hb:¬ badPx f px)(ha:At l j (10::rowsW f w px h)):bodyS l f j w h (if f=2∨f=5 then 255 else 1)=.inr (px,j+(if f≤2 then 0 else 1)+(rowsW f w px h).length):=by
 have htk:px.take (h*w)=px:=List.take_of_length_le (by rw[hl,Nat.mul_comm];exact Nat.le_refl _)
 obtain⟨g1,g2,g3⟩:=ha.cons
 have hle:=ha.le
 simp only[List.length_cons,reduceCtorEq,or_false]at hle
 unfold bodyS
 rcases hf with rfl|rfl|rfl|rfl
 ·rw[if_pos rfl,Nat.mul_comm w h,bits_rows hw hl (goodPx (.inl rfl) hb) ha h (Nat.le_refl _),htk]
  rfl
 ·rw[if_neg (by decide),if_pos rfl]
  unfold valsS
  have h1:=vals_rows hw hl ha h (Nat.le_refl _)
  rw[if_pos (by decide),Nat.mul_comm w h,h1,htk]
  simp only
  obtain⟨_,h3,_⟩:=(lf_at (.inr rfl) hw hh hl ha).cons
  rw[h3,if_neg (by rintro⟨_,h⟩;cases h)]
  rfl
 ·rw[if_neg (by decide),if_neg (by decide)]
  unfold rawS
  rw[g2,if_neg (by decide),if_pos rfl]
  unfold rawBS
  have e:=rowsW4_len hl h (Nat.le_refl _)
  rw[Nat.mul_comm]at e
  rw[if_pos (by omega),rowsQ_at hw hl (goodPx (.inr rfl) hb) g3 h (Nat.le_refl _),htk,e]
  rfl
 ·rw[if_neg (by decide),if_neg (by decide)]
  unfold rawS
  rw[g2,if_neg (by decide),if_neg (by decide)]
  unfold rawVS
  have e:=rowsW_raw (px:=px) (w:=w) h
  rw[htk]at e
  rw[e]at g3 hle ⊢
  rw[if_pos (by omega),if_pos (by decide),←hl,raws_at g3 _ (Nat.le_refl _),List.take_of_length_le (Nat.le_refl _)]
  rfl
theorem readS_file{l px d:List UInt8}{f w h:Nat}(hf:f=1∨f=2∨f=4∨f=5)(hd:isRem d)(hv:valB w h px.length=true)(hb:¬ badPx f px)(ha:At l 0 (headD f w h d++(10::rowsW f w px h))):readS l=.inr ⟨w,h,px,f,cntS f w h d px⟩:=by
 obtain⟨w1,w2,h1,h2,n1,n2,_,_⟩:=val_nat hv
 have hl:px.length=w*h:=by omega
 have hp:posB w h=true:=by
  unfold valB at hv
  rw[Bool.and_eq_true]at hv
  exact hv.1
 have ha1:At l 0 (headD f w h d++[10]):=by
  have:headD f w h d++(10::rowsW f w px h)=headD f w h d++[10]++rowsW f w px h:=by simp
  rw[this]at ha
  exact ha.left
 have ha2:=ha.right
 rw[Nat.zero_add]at ha2
 have hh:=headS_at hf hd hp w2 h2 ha1
 have hbd:=bodyS_at hf w1 h1 hl hb ha2
 have h0:At l 0 (80::(dig f::([10]++d++decL w++[32]++decL h++(if f=2∨f=5 then[10,50,53,53] else[])++[10]))):=by
  simpa[headD]using ha1
 obtain⟨a1,a2,a3⟩:=h0.cons
 obtain⟨b1,b2,_⟩:=a3.cons
 have hdf:(dig f).toNat=48+f:=by have:=dig_nat (n:=f) (by omega);omega
 rw[readS_img (by omega) a2 (by rw[b2,hdf]) hf]
 exact imgS_ok hh hbd
end Go.Proofs.YtpbiaeiebhgmgaaDoor
