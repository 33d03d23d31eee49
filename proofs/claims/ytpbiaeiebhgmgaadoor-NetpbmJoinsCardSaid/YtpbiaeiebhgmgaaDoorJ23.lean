/- Netpbm: what the laws share: written, length, fails; appending. Netpbm: the laws NetpbmRoundTrip, NetpbmCuts, NetpbmComments. Netpbm: the law NetpbmComments. Netpbm: arguments of the laws: small numbers. -/
import Derived.Test.YtpbiaeiebhgmgaaDoorJ16
import Derived.Test.YtpbiaeiebhgmgaaDoorJ21
import Derived.Test.YtpbiaeiebhgmgaaDoorJ22
set_option linter.unusedVariables false
set_option linter.unusedSimpArgs false
set_option linter.unusedSectionVars false
namespace Go.Proofs.YtpbiaeiebhgmgaaDoor
open Go.Abs
set_option linter.unusedSimpArgs false
set_option linter.unusedVariables false
set_option maxRecDepth 20000
section
variable {lo:Nat}{H:Heap}
def fmtK(k:UInt8):Nat:=(if k.toNat%2=1 then 2 else 1)+(if k.toNat%4>1 then 3 else 0)
theorem fmtK_in(k:UInt8):fmtK k=1∨fmtK k=2∨fmtK k=4∨fmtK k=5:=by unfold fmtK;split<;>split<;>simp
noncomputable def wrote(w ht:Int)(k:UInt8)(l:List UInt8):List UInt8×Int:=if (wres w ht (fmtK k:Nat) l).2≠0∨l.length>2000 then([],0) else((wres w ht (fmtK k:Nat) l).1,(fmtK k:Nat))
theorem writP{G:Heap}{w ht:Int}{v:Value}{l:List UInt8}{k:UInt8}(hG:G.length≤lo)(hG2:lo≤G.length)(hg:G.get 0=some powC)(hx:Ext G H)(hl:SlU G v l):Ev cp lo 12 [.agg #[.int .i64 w,.int .i64 ht,v],encU k] H (fun r H'=>Ext H H'∧∃u,r=.tuple #[u,.int .i64 (wrote w ht k l).2]∧SlU H' u (wrote w ht k l).1):=by
 obtain⟨ad,c,rfl⟩:=hl.len
 have hkl:=k.toNat_lt
 have e2:(k.toNat:Int).tmod 2=((k.toNat%2:Nat):Int):=by rw[Int.tmod_eq_emod_of_nonneg (by omega)];omega
 have e4:(k.toNat:Int).tmod 4=((k.toNat%4:Nat):Int):=by rw[Int.tmod_eq_emod_of_nonneg (by omega)];omega
 refine st12 ?_;unfold bd12 cf12;simp only[kB,ctlB]
 repeat' ((first|refine xSNb ?_|refine xONb rfl ?_);(try simp only[ctlB]))
 have hxb:Ext H (H++[some [Value.int IntKind.i64 w,Value.int IntKind.i64 ht,Value.slice ad l.length c]]):=Ext.app _ _
 have hgb:(H++[some [Value.int IntKind.i64 w,Value.int IntKind.i64 ht,Value.slice ad l.length c]]).get H.length=some [Value.int IntKind.i64 w,Value.int IntKind.i64 ht,Value.slice ad l.length c]:=get_app0
 generalize H++[some [Value.int IntKind.i64 w,Value.int IntKind.i64 ht,Value.slice ad l.length c]]=Hb at hxb hgb
 refine aw_midX (fun S' H'=>Hb=H'∧∃x:Nat,x=(if k.toNat%2=1 then 2 else 1)∧∃(z:Nat→Value),S'=[z 0,encU k,.pointer (some ⟨H.length,0,none⟩),.slice none 0 0,.int .i64 0,.int .i64 (x:Nat),z 6,z 7,z 8]) ?_ ?_
 ·refine xCNb (fun h=>?_) (fun h=>?_)
  ·have k2:k.toNat%2=1:=by simp at h;omega
   clear h
   (try simp only[ctlB])
   repeat' ((first|refine xSNb ?_|refine xONb rfl ?_);(try simp only[ctlB]))
   exact⟨trivial,2,by rw[if_pos k2],exZNf rfl⟩
  ·have k2:¬ k.toNat%2=1:=by simp at h;omega
   clear h
   (try simp only[ctlB])
   exact⟨trivial,1,by rw[if_neg k2],exZNf rfl⟩
 rintro S' H' ⟨rfl,x,hx2,z,rfl⟩
 replace hx2:False∨_:=.inr hx2
 have hxle:x≤2:=by rw[hx2.resolve_left id];split<;>omega
 (try simp only[ctlB])
 refine aw_midX (fun S' H'=>Hb=H'∧∃x:Nat,x=fmtK k∧∃(z:Nat→Value),S'=[z 0,encU k,.pointer (some ⟨H.length,0,none⟩),.slice none 0 0,.int .i64 0,.int .i64 (x:Nat),z 6,z 7,z 8]) ?_ ?_
 ·refine xCNb (fun h=>?_) (fun h=>?_)
  ·have k4:k.toNat%4>1:=by simp at h;omega
   clear h
   (try simp only[ctlB])
   repeat' ((first|refine xSNb ?_|refine xONb rfl ?_);(try simp only[ctlB]))
   exact⟨trivial,x+3,by unfold fmtK;rw[if_pos k4,hx2.resolve_left id],exZNf (by first|rfl|(simp only[Int.natCast_add,Int.natCast_one];rfl)|simp only[Int.natCast_add,Int.natCast_one])⟩
  ·have k4:¬ k.toNat%4>1:=by simp at h;omega
   clear h
   (try simp only[ctlB])
   exact⟨trivial,x,by unfold fmtK;rw[if_neg k4,hx2.resolve_left id,Nat.add_zero],exZNf rfl⟩
 clear hx2 hxle x
 rintro S' H' ⟨rfl,x,hx3,z,rfl⟩
 subst hx3
 generalize hf:fmtK k=f
 (try simp only[ctlB])
 refine xHNb ?_
 refine wpH_call0 (wrP (f:=(f:Nat)) hG hG2 hg (hx.trans hxb) hl) ?_
 rintro r H1 ⟨hx1,u1,rfl,hu1⟩
 have hgb1:=hx1.get hgb
 obtain⟨au,cu,rfl⟩:=hu1.len
 have hw:wrote w ht k l=if (wres w ht f l).2≠0∨l.length>2000 then([],0) else((wres w ht f l).1,(f:Int)):=by rw[←hf];rfl
 rw[hw]
 clear hw
 generalize wres w ht f l=q at hu1
 by_cases hc:q.2≠0∨l.length>2000
 ·rw[if_pos hc]
  (try simp only[ctlB])
  repeat' ((first|refine xSNb ?_|refine xONb rfl ?_);(try simp only[ctlB]))
  refine xCNb (fun h=>?_) (fun h=>?_)
  ·(try simp only[ctlB])
   repeat' ((first|refine xSNb ?_|refine xONb rfl ?_);(try simp only[ctlB]))
   refine xRNb ?_
   exact⟨hxb.trans hx1,_,rfl,.inl ⟨rfl,rfl⟩⟩
  ·exfalso;simp at h;omega
 ·rw[if_neg hc]
  (try simp only[ctlB])
  repeat' ((first|refine xSNb ?_|refine xONb rfl ?_);(try simp only[ctlB]))
  refine xCNb (fun h=>?_) (fun h=>?_)
  ·exfalso;simp at h;omega
  clear h
  (try simp only[ctlB])
  repeat' ((first|refine xSNb ?_|refine xONb rfl ?_);(try simp only[ctlB]))
  refine xRNb ?_
  exact⟨hxb.trans hx1,_,rfl,hu1⟩
theorem wrote_in{w ht:Int}{k:UInt8}{l:List UInt8}(h:(wrote w ht k l).1≠[]):∃W T:Nat,w=W∧ht=T∧valB W T l.length=true∧¬ badPx (fmtK k) l∧l.length≤2000∧wrote w ht k l=(outB (fmtK k) W T l,((fmtK k:Nat):Int)):=by
 unfold wrote at h ⊢
 by_cases hc:(wres w ht (fmtK k:Nat) l).2≠0∨l.length>2000
 ·rw[if_pos hc]at h;exact absurd rfl h
 rw[if_neg hc]at h ⊢
 have h2:(wres w ht (fmtK k:Nat) l).2=0:=Decidable.not_not.1 (fun h=>hc (.inl h))
 have hlen:l.length≤2000:=by
  have:¬ l.length>2000:=fun h=>hc (.inr h)
  omega
 clear hc
 unfold wres at h h2 ⊢
 by_cases c1:¬ (((fmtK k:Nat):Int)=1∨((fmtK k:Nat):Int)=2∨((fmtK k:Nat):Int)=4∨((fmtK k:Nat):Int)=5)∨valB w ht l.length=false
 ·rw[if_pos c1]at h2;cases h2
 rw[if_neg c1]at h h2 ⊢
 by_cases c2:badPx ((fmtK k:Nat):Int).toNat l
 ·rw[if_pos c2]at h2;cases h2
 rw[if_neg c2]at h h2 ⊢
 have hv:valB w ht l.length=true:=by
  cases hv:valB w ht l.length with
  | true=>rfl
  | false=>exact absurd (.inr hv) c1
 obtain⟨W,T,rfl,rfl⟩:=val_pos hv
 exact⟨W,T,rfl,rfl,hv,c2,hlen,rfl⟩
theorem rowsW_len2{f w h:Nat}{px:List UInt8}(hl:px.length=w*h):∀y,y≤h→(rowsW f w px y).length≤y*(5*w+1)
 | 0,_=>by simp[rowsW]
 | y+1,hy=>by
  have hrl:=row_len hl (show y<h by omega)
  have h1:=rowW_len f ((px.drop (y*w)).take w)
  rw[hrl]at h1
  have h2:=rowsW_len2 (f:=f) hl y (by omega)
  rw[rowsW,List.length_append,Nat.succ_mul]
  omega
theorem outB_len{f w h:Nat}{px:List UInt8}(hv:valB w h px.length=true)(hlen:px.length≤2000):(outB f w h px).length≤12017:=by
 obtain⟨w1,w2,h1,h2,n1,n2,_,_⟩:=val_nat hv
 have h3:=headB_len (f:=f) w2 h2
 have h4:=rowsW_len2 (f:=f) (show px.length=w*h by omega) h (Nat.le_refl _)
 have h5:h*(5*w+1)=5*(w*h)+h:=by rw[Nat.mul_add,Nat.mul_one,Nat.mul_left_comm,Nat.mul_comm h w]
 have h6:h≤w*h:=Nat.le_mul_of_pos_left h w1
 unfold outB
 rw[List.length_append]
 omega
theorem outB_pos{f w h:Nat}{px:List UInt8}:3≤(outB f w h px).length:=by
 unfold outB headB
 simp
end
end Go.Proofs.YtpbiaeiebhgmgaaDoor
namespace Go.Proofs.YtpbiaeiebhgmgaaDoor
open Go.Abs
set_option linter.unusedSimpArgs false
set_option linter.unusedVariables false
set_option maxRecDepth 20000
theorem readS_out{f w h:Nat}{px tl:List UInt8}(hf:f=1∨f=2∨f=4∨f=5)(hv:valB w h px.length=true)(hb:¬ badPx f px):readS (outB f w h px++tl)=.inr ⟨w,h,px,f,if f<4 then(outB f w h px).length-1 else(outB f w h px).length⟩:=by
 have ha:At (outB f w h px++tl) 0 (headD f w h []++(10::rowsW f w px h)):=by
  refine⟨tl,?_⟩
  unfold outB
  rw[headB_D]
  simp
 rw[readS_file hf (.inl rfl) hv hb ha]
 unfold cntS outB
 rw[headB_D]
 congr 2
 simp only[List.length_append,List.length_cons,List.length_nil]
 rcases hf with rfl|rfl|rfl|rfl<;>simp<;>omega
section
variable {H:Heap}
end
end Go.Proofs.YtpbiaeiebhgmgaaDoor
namespace Go.Proofs.YtpbiaeiebhgmgaaDoor
open Go.Abs
set_option linter.unusedSimpArgs false
set_option linter.unusedVariables false
set_option maxRecDepth 20000
section
variable {H:Heap}
end
end Go.Proofs.YtpbiaeiebhgmgaaDoor
namespace Go.Proofs.YtpbiaeiebhgmgaaDoor
open Go.Abs
set_option linter.unusedSimpArgs false
set_option linter.unusedVariables false
end Go.Proofs.YtpbiaeiebhgmgaaDoor
