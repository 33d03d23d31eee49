/- Netpbm: plain facts about what Read answers; several pictures. Netpbm: Same; ReadAll of the program and of the reference. -/
import Derived.Test.YtpbiaeiebhgmgaaDoorR20
set_option linter.unusedVariables false
set_option linter.unusedSimpArgs false
set_option linter.unusedSectionVars false
namespace Go.Proofs.YtpbiaeiebhgmgaaDoor
open Go.Abs
set_option linter.unusedSimpArgs false
set_option linter.unusedVariables false
theorem skip_ge(l:List UInt8)(i:Nat):i≤skipS l i:=by
 rw[skipS]
 split
 ·rename_i h
  have h1:=skip_ge l (if ((l.getD i 0).toNat:Int)=35 then eol l (i+1) else i+1)
  have h2:=eol_ge l (i+1)
  split at h1<;>(rename_i h3;first|rw[if_pos h3]|rw[if_neg h3])<;>omega
 ·exact Nat.le_refl _
termination_by l.length-i
decreasing_by
 rename_i h
 have:=eol_ge l (i+1)
 split<;>omega
theorem numS_ge{l:List UInt8}{i n j:Nat}(hi:i≤l.length)(h:numS l i=.inr (n,j)):i≤j:=by
 unfold numS at h
 split at h
 ·cases h
 split at h
 ·cases h
 split at h
 ·cases h
 split at h
 ·cases h
 have e:=Sum.inr.inj h
 have h1:=skip_ge l i
 have h2:=digS_in l (skipS l i) 0 (by omega) (by omega)
 rw[e]at h2
 have:=h2.2.1
 simp only at this
 omega
theorem hdrS_ge{l:List UInt8}{i n j a c:Nat}(hi:i≤l.length)(h:hdrS l i a c=.inr (n,j)):i≤j:=by
 unfold hdrS at h
 cases hn:numS l i with
 | inl e=>rw[hn]at h;cases h
 | inr p=>
  obtain⟨n',j'⟩:=p
  have:=numS_ge hi hn
  rw[hn]at h
  simp only at h
  split at h
  ·cases h
  split at h
  ·have e:=Sum.inr.inj h
   cases e
   exact this
  ·cases h
theorem headS_ge{l:List UInt8}{f w h m j:Nat}(hl:2≤l.length)(e:headS l f=.inr (w,h,m,j)):2≤j:=by
 unfold headS at e
 cases h1:hdrS l 2 0 65535 with
 | inl e'=>simp only[h1]at e;cases e
 | inr p=>
  obtain⟨w',i⟩:=p
  have hi:=hdrS_ge hl h1
  have hi2:=hdrS_in hl h1
  simp only[h1]at e
  cases h2:hdrS l i 0 65535 with
  | inl e'=>simp only[h2]at e;cases e
  | inr p=>
   obtain⟨h',j'⟩:=p
   have hj:=hdrS_ge (by omega) h2
   have hj2:=hdrS_in (by omega) h2
   simp only[h2]at e
   split at e
   ·cases e
   split at e
   ·cases h3:hdrS l j' 1 255 with
    | inl e'=>simp only[h3]at e;cases e
    | inr p=>
     obtain⟨m',k⟩:=p
     have hk:=hdrS_ge (by omega) h3
     simp only[h3]at e
     cases Sum.inr.inj e
     omega
   ·cases Sum.inr.inj e
    omega
theorem stepB_ge{l:List UInt8}{p:List UInt8}{i:Nat}{x:List UInt8×Nat}(h:stepB l (p,i)=.inr x):i≤x.2:=by
 have h1:=skip_ge l i
 unfold stepB at h
 split at h
 ·cases h
 split at h
 ·cases Sum.inr.inj h;simp only;omega
 split at h
 ·cases Sum.inr.inj h;simp only;omega
 ·cases h
theorem stepV_ge{l:List UInt8}{p:List UInt8}{i m:Nat}{x:List UInt8×Nat}(hi:i≤l.length)(h:stepV l m (p,i)=.inr x):i≤x.2:=by
 unfold stepV at h
 cases h1:numS l i with
 | inl e=>simp only[h1]at h;cases h
 | inr q=>
  obtain⟨n,j⟩:=q
  have:=numS_ge hi h1
  simp only[h1]at h
  split at h
  ·cases Sum.inr.inj h;exact this
  ·cases h
theorem bits_ge{l:List UInt8}{i:Nat}(hi:i≤l.length):∀{k:Nat} {x:List UInt8×Nat},iterS (stepB l) ([],i) k=.inr x→i≤x.2
 | 0,x,h=>by cases Sum.inr.inj h;exact Nat.le_refl _
 | k+1,x,h=>by
  cases hk:iterS (stepB l) ([],i) k with
  | inl e=>rw[iterS,hk]at h;cases h
  | inr y=>
   rw[iter_ok hk]at h
   have h1:=bits_ge hi hk
   have h2:=stepB_ge (p:=y.1) (i:=y.2) h
   omega
theorem vals_ge{l:List UInt8}{i m:Nat}(hi:i≤l.length):∀{k:Nat} {x:List UInt8×Nat},iterS (stepV l m) ([],i) k=.inr x→i≤x.2
 | 0,x,h=>by cases Sum.inr.inj h;exact Nat.le_refl _
 | k+1,x,h=>by
  cases hk:iterS (stepV l m) ([],i) k with
  | inl e=>rw[iterS,hk]at h;cases h
  | inr y=>
   rw[iter_ok hk]at h
   have h1:=vals_ge hi hk
   have h2:=stepV_ge (p:=y.1) (i:=y.2) (vals_in hi hk).2 h
   omega
theorem bodyS_in{l:List UInt8}{f j w h m:Nat}(hj:j<l.length){px:List UInt8}{p:Nat}(e:bodyS l f j w h m=.inr (px,p)):px.length=w*h∧j≤p∧p≤l.length:=by
 unfold bodyS at e
 split at e
 ·have h1:=bits_in (by omega) e
  have h2:=bits_ge (by omega) e
  exact⟨h1.1,h2,h1.2⟩
 split at e
 ·unfold valsS at e
  cases hv:iterS (stepV l m) ([],j) (w*h)with
  | inl e'=>rw[hv]at e;cases e
  | inr y=>
   obtain⟨px',p'⟩:=y
   rw[hv]at e
   simp only at e
   have h1:=vals_in (by omega) hv
   have h2:=vals_ge (by omega) hv
   split at e
   ·cases e
   ·cases Sum.inr.inj e
    exact⟨h1.1,h2,h1.2⟩
 ·unfold rawS at e
  split at e
  ·cases e
  split at e
  ·unfold rawBS at e
   split at e
   ·cases Sum.inr.inj e
    have:(w+7)/8*h≤l.length-(j+1):=by assumption
    refine⟨by rw[rowsQ_len,Nat.mul_comm],by omega,?_⟩
    omega
   ·cases e
  ·unfold rawVS at e
   split at e
   ·have:w*h≤l.length-(j+1):=by assumption
    have h1:=raws_in e
    simp only at h1
    exact⟨h1.1,by omega,by omega⟩
   ·cases e
theorem readS_in{l:List UInt8}{c:Pic}(h:readS l=.inr c):c.px.length=c.w*c.h∧1≤c.w∧c.w≤4096∧1≤c.h∧c.h≤4096∧2≤c.p∧c.p≤l.length:=by
 unfold readS at h
 split at h
 ·cases h
 split at h
 ·cases h
 have hl:2≤l.length:=by rename_i h1 _;omega
 cases hh:headS l ((l.getD 1 0).toNat-48)with
 | inl e=>rw[hh]at h;cases h
 | inr q=>
  obtain⟨w,ht,m,j⟩:=q
  have h1:=headS_in hl hh
  have h2:=headS_ge hl hh
  rw[hh]at h
  simp only at h
  cases hb:bodyS l ((l.getD 1 0).toNat-48) j w ht m with
  | inl e=>rw[hb]at h;cases h
  | inr q=>
   obtain⟨px,p⟩:=q
   have h3:=bodyS_in h1.2.2.2.2.2.2.2 hb
   rw[hb]at h
   cases Sum.inr.inj h
   exact⟨h3.1,h1.1,h1.2.1,h1.2.2.1,h1.2.2.2.1,by have:=h3.2.1;simp only;omega,h3.2.2⟩
abbrev Rec:=Pic×Value
def Pics(H:Heap)(L:List Rec):Prop:=∀r ∈ L,(0<r.1.px.length∧r.1.px.length≤16777216)∧SlU H r.2 r.1.px
theorem Pics.imp{H H':Heap}{L:List Rec}(h:Pics H L)(e:∀u px,0<px.length→SlU H u px→SlU H' u px):Pics H' L:=fun r hr=>⟨(h r hr).1,e _ _ (h r hr).1.1 (h r hr).2⟩
theorem Pics.mono{H H':Heap}{L:List Rec}(h:Pics H L)(e:Ext H H'):Pics H' L:=fun r hr=>⟨(h r hr).1,(h r hr).2.mono e⟩
theorem sl_adv{H:Heap}{v:Value}{l:List UInt8}{n:Nat}(h:SlU H v l)(hn:n≤l.length):∃v',lsem (.sl 1 true false false) [v,.int .i64 (n:Nat)] H=some v'∧SlU H v' (l.drop n):=by
 rcases h with ⟨rfl,rfl⟩|⟨b,o,sp,cap,xs,rfl,h2,h3,h4,h5,h6⟩
 ·have:n=0:=by simpa using hn
  subst this
  exact⟨.slice none 0 0,rfl,.inl ⟨rfl,rfl⟩⟩
 ·have hd:(xs.drop (o+n)).take (l.length-n)=(l.drop n).map encU:=by
   rw[List.map_drop,←h3,←List.drop_drop,List.drop_take]
  rcases h5 with rfl|rfl
  ·refine⟨.slice (some ⟨b,if cap=n then o else o+n,none⟩) (l.length-n) (cap-n),?_,.inr ⟨b,_,none,cap-n,xs,by rw[List.length_drop],h2,?_,?_,.inl rfl,by rw[List.length_drop];omega⟩⟩
   ·rw[ls_slx,bd_lo (by omega) (by omega)]
    simp
   ·rw[List.length_drop]
    split
    ·have:l.length-n=0:=by omega
     rw[this]
     have:l.drop n=[]:=List.drop_eq_nil_of_le (by omega)
     rw[this];simp
    ·exact hd
   ·rw[List.length_drop];split<;>omega
  ·refine⟨.slice (some ⟨b,o+n,some 1⟩) (l.length-n) (cap-n),?_,.inr ⟨b,_,some 1,cap-n,xs,by rw[List.length_drop],h2,by rw[List.length_drop];exact hd,by rw[List.length_drop];omega,.inr rfl,by rw[List.length_drop];omega⟩⟩
   rw[ls_sli,bd_lo (by omega) (by omega)]
   simp
theorem sl_at{H:Heap}{v:Value}{l:List UInt8}{k:Nat}(h:SlU H v l)(hk:k<l.length):∃b o xs,lsem (.iAddr 1) [v,.int .i64 (k:Nat)] H=some (.pointer (some ⟨b,o,none⟩))∧H.get b=some xs∧xs[o]?=some (encU (l.getD k 0)):=by
 obtain⟨b,o,sp,cap,xs,rfl,h2,h3,h4⟩:=h.els 0 (by omega)
 refine⟨b,o+k,xs,?_,h2,h3 k hk⟩
 rw[ls_iAddr (by omega) (by omega)];simp
end Go.Proofs.YtpbiaeiebhgmgaaDoor
namespace Go.Proofs.YtpbiaeiebhgmgaaDoor
open Go.Abs
set_option linter.unusedSimpArgs false
set_option linter.unusedVariables false
set_option maxRecDepth 20000
section
variable {lo:Nat}{H:Heap}
theorem sameV{w h w' h':Int}{u u':Value}{px px':List UInt8}(hl:SlU H u px)(hl':SlU H u' px')(hlo:lo≤H.length)(hpl:px.length≤4294967296):Ev cp lo 15 [.agg #[.int .i64 w,.int .i64 h,u],.agg #[.int .i64 w',.int .i64 h',u']] H (fun r H'=>Ext H H'∧r=.bool (decide (w=w'∧h=h'∧px=px'))):=by
 obtain⟨ad,c,e1⟩:=hl.len
 obtain⟨ad',c',e2⟩:=hl'.len
 by_cases hc:w=w'∧h=h'∧px.length=px'.length
 ·obtain⟨rfl,rfl,hn⟩:=hc
  rw[←hn]at e2
  subst e1 e2
  have hr:(decide (w=w∧h=h∧px=px'))=decide (px=px'):=by simp
  rw[hr]
  clear hr
  replace hn:False∨_:=.inr hn
  refine st15 ?_;unfold bd15 cf15;simp only[kB,ctlB]
  repeat' ((first|refine xSNb ?_|refine xONb rfl ?_);(try simp only[ctlB]))
  have hxb:Ext H (H++[some [Value.int IntKind.i64 w,Value.int IntKind.i64 h,Value.slice ad px.length c],some [Value.int IntKind.i64 w,Value.int IntKind.i64 h,Value.slice ad' px.length c']]):=Ext.app _ _
  have hg1:(H++[some [Value.int IntKind.i64 w,Value.int IntKind.i64 h,Value.slice ad px.length c],some [Value.int IntKind.i64 w,Value.int IntKind.i64 h,Value.slice ad' px.length c']]).get H.length=some [Value.int IntKind.i64 w,Value.int IntKind.i64 h,Value.slice ad px.length c]:=get_app0
  have hg2:(H++[some [Value.int IntKind.i64 w,Value.int IntKind.i64 h,Value.slice ad px.length c],some [Value.int IntKind.i64 w,Value.int IntKind.i64 h,Value.slice ad' px.length c']]).get (H.length+1)=some [Value.int IntKind.i64 w,Value.int IntKind.i64 h,Value.slice ad' px.length c']:=by rw[get_appS];rfl
  generalize H++[some [Value.int IntKind.i64 w,Value.int IntKind.i64 h,Value.slice ad px.length c],some [Value.int IntKind.i64 w,Value.int IntKind.i64 h,Value.slice ad' px.length c']]=HB at hxb hg1 hg2
  have hs1:=hl.mono hxb
  have hs2:=hl'.mono hxb
  refine xCNb (fun h=>?_) (fun h=>?_)
  ·exfalso;simp at h
  clear h
  (try simp only[ctlB])
  repeat' ((first|refine xSNb ?_|refine xONb rfl ?_);(try simp only[ctlB]))
  refine aw_loop' (fun m S H'=>∃(k:Nat),m+k=px.length∧(∀j,j<k→px.getD j 0=px'.getD j 0)∧HB=H'∧S=[Value.agg #[.int .i64 w,.int .i64 h,.slice ad px.length c],Value.agg #[.int .i64 w,.int .i64 h,.slice ad' px.length c'],.pointer (some ⟨H.length,0,none⟩),.pointer (some ⟨H.length+1,0,none⟩),.bool false,.int .i64 (k:Nat)]) px.length ⟨0,by omega,by omega,rfl,rfl⟩ ?_
  rintro m S H' ⟨k,hm,hk,rfl,rfl⟩
  replace hk:False∨_:=.inr hk
  replace hm:m+k≤px.length∧px.length≤m+k:=by omega
  (try simp only[ctlB])
  by_cases hkl:k<px.length
  ·have hd:decide ((k:Int)<(px.length:Nat))=true:=by simpa using hkl
   obtain⟨b1,o1,xs1,i1,g1,v1⟩:=sl_at hs1 hkl
   obtain⟨b2,o2,xs2,i2,g2,v2⟩:=sl_at hs2 (k:=k) (by have:=hn.resolve_left id;omega)
   by_cases he:px.getD k 0=px'.getD k 0
   ·rw[←he]at v2
    replace he:False∨_:=.inr he
    generalize px.getD k 0=d at v1 v2
    refine xCNb (fun h=>?_) (fun h=>?_)
    ·clear h
     (try simp only[ctlB])
     refine xCNb (fun h=>?_) (fun h=>?_)
     ·exfalso;simp at h
     clear h
     (try simp only[ctlB])
     repeat' ((first|refine xSNb ?_|refine xONb rfl ?_);(try simp only[ctlB]))
     simp only[loopQ_n]
     refine⟨m-1,by omega,k+1,by omega,?_,by trivial,(by first|rfl|(simp only[Int.natCast_add,Int.natCast_one];rfl)|simp only[Int.natCast_add,Int.natCast_one])⟩
     intro j hj
     by_cases hjk:j<k
     ·exact hk.resolve_left id j hjk
     ·obtain rfl:j=k:=by omega
      exact he.resolve_left id
    ·exfalso;simp at h
   ·have hne:px≠px':=fun e=>he (by rw[e])
    have hpp:decide (px=px')=false:=by simp[hne]
    have hdd:decide (((px.getD k 0).toNat:Int)≠((px'.getD k 0).toNat:Int))=true:=by
     simp only[decide_eq_true_eq]
     intro e
     exact he (UInt8.toNat_inj.1 (by omega))
    rw[hpp]
    clear hne he hpp
    generalize px.getD k 0=d at v1 hdd
    generalize px'.getD k 0=d' at v2 hdd
    refine xCNb (fun h=>?_) (fun h=>?_)
    ·clear h
     (try simp only[ctlB])
     refine xCNb (fun h=>?_) (fun h=>?_)
     ·clear h
      (try simp only[ctlB])
      repeat' ((first|refine xSNb ?_|refine xONb rfl ?_);(try simp only[ctlB]))
      refine xRNb ?_
      exact⟨hxb,rfl⟩
     ·exfalso;simp at h
    ·exfalso;simp at h
  ·have hd:decide ((k:Int)<(px.length:Nat))=false:=by simpa using hkl
   refine xCNb (fun h=>?_) (fun h=>?_)
   ·exfalso;simp at h
   clear h
   (try simp only[ctlB])
   repeat' ((first|refine xSNb ?_|refine xONb rfl ?_);(try simp only[ctlB]))
   refine xRNb ?_
   refine⟨hxb,?_⟩
   have:px=px':=by
    refine List.ext_getElem (hn.resolve_left id) fun j h1 h2=>?_
    have:=hk.resolve_left id j (by omega)
    simpa[List.getD_eq_getElem?_getD,h1,h2]using this
   rw[decide_eq_true this];rfl
 ·have hr:decide (w=w'∧h=h'∧px=px')=false:=by
   simp only[decide_eq_false_iff_not]
   rintro⟨a,b,rfl⟩
   exact hc ⟨a,b,rfl⟩
  rw[hr]
  subst e1 e2
  clear hr
  refine st15 ?_;unfold bd15 cf15;simp only[kB,ctlB]
  repeat' ((first|refine xSNb ?_|refine xONb rfl ?_);(try simp only[ctlB]))
  refine xCNb (fun h=>?_) (fun h=>?_)
  ·(try simp only[ctlB])
   repeat' ((first|refine xSNb ?_|refine xONb rfl ?_);(try simp only[ctlB]))
   refine xRNb ?_
   exact⟨Ext.app _ _,rfl⟩
  ·exfalso;simp at h;exact hc ⟨h.1.1,h.1.2,by omega⟩
end
end Go.Proofs.YtpbiaeiebhgmgaaDoor
