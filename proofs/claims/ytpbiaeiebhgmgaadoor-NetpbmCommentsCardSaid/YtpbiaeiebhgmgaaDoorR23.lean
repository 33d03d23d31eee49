/- Netpbm: what the laws share: written, length, fails; appending. Netpbm: the laws NetpbmRoundTrip, NetpbmCuts, NetpbmComments. Netpbm: the law NetpbmComments. Netpbm: arguments of the laws: small numbers. -/
import Derived.Test.YtpbiaeiebhgmgaaDoorR16
import Derived.Test.YtpbiaeiebhgmgaaDoorR21
import Derived.Test.YtpbiaeiebhgmgaaDoorR22
set_option linter.unusedVariables false
set_option linter.unusedSimpArgs false
set_option linter.unusedSectionVars false
namespace Go.Proofs.YtpbiaeiebhgmgaaDoor
open Go.Abs
set_option linter.unusedSimpArgs false
set_option linter.unusedVariables false
set_option maxRecDepth 20000
theorem set_same{H:Heap}{b:Nat}{c:List Value}(h:H.get b=some c):H.set b (some c)=H:=by
 refine List.ext_getElem? fun k=>?_
 have hb:=Heap.get_lt h
 rw[get_of]at h
 by_cases e:k=b
 ·subst e
  rw[List.getElem?_set_self hb]
  cases hk:H[k]? with
  | none=>rw[hk]at h;cases h
  | some x=>rw[hk]at h;simp at h;rw[h]
 ·rw[List.getElem?_set_ne (fun h=>e h.symm)]
section
variable {lo:Nat}{H:Heap}
theorem app0{z:List Value}{v w:Value}{b:Nat}{X:List Value}{R:Value→Heap→Prop}(ho:Own lo 1 H v b X)(hw:SlU H w [])(k:R v H):wpH cp lo (.app 1 z) [v,w] H R:=by
 have h0:appendSem lo 1 v [] 0 H=some (v,H):=by
  obtain⟨hb,⟨rfl,rfl⟩|⟨n,hn,hc,rfl,hg⟩⟩:=ho
  ·rfl
  ·have hp:Heap.put lo H b (0+n*1) []=some H:=by
    rw[put_get hg hb (by simp;omega)]
    have:putCells X (0+n*1) []=X:=by simp[putCells]
    rw[this,set_same hg]
   simp only[appendSem]
   rw[if_pos (by omega),if_pos (Or.inr trivial),hp]
   rfl
 rcases hw with ⟨rfl,_⟩|⟨b',o,sp,cap,xs,rfl,h2,h3,h4,h5⟩
 ·simp only[wpH,hsem0,hsem,if_true,h0];exact k
 ·have e:H.cells b' o (0*1)=some []:=by rw[cells_get h2 (by simpa using h4)];simp
  simp only[wpH,hsem0,hsem,List.length_nil,e,Option.bind_some]
  rw[show oneCells ([]:List Value)=true from rfl]
  simp only[if_true,h0]
  exact k
theorem appU{z:List Value}{G:Heap}{v w:Value}{b:Nat}{X l:List UInt8}{R:Value→Heap→Prop}(ho:Own lo 1 H v b (uL X))(hl:SlU H w l)(hx:Ext G H)(hG:G.length≤b)(hlo:lo≤G.length)(hbig:X.length+l.length≤4294967296)
  (k:∀v' b' H',Own lo 1 H' v' b' (uL (X++l))→Ext G H'→G.length≤b'→H.length≤H'.length→R v' H'):wpH cp lo (.app 1 z) [v,w] H R:=by
 have hGl:=hx.1
 by_cases h0:l=[]
 ·subst h0
  refine app0 ho hl (k _ _ _ ?_ hx hG (Nat.le_refl _))
  rw[List.append_nil];exact ho
 ·refine own_appU ho (by omega) hl (List.length_pos_iff.2 h0) (by rw[uL_len];exact hbig) ?_
  intro v' H' ho' hk hl'
  refine k v' _ H' ?_ (hk.ext hx hG) hGl (by omega)
  rw[uL_app];exact ho'
def fmtK(k:UInt8):Nat:=(if k.toNat%2=1 then 2 else 1)+(if k.toNat%4>1 then 3 else 0)
theorem fmtK_in(k:UInt8):fmtK k=1∨fmtK k=2∨fmtK k=4∨fmtK k=5:=by unfold fmtK;split<;>split<;>simp
noncomputable def wrote(w ht:Int)(k:UInt8)(l:List UInt8):List UInt8×Int:=if (wres w ht (fmtK k:Nat) l).2≠0∨l.length>2000 then([],0) else((wres w ht (fmtK k:Nat) l).1,(fmtK k:Nat))
theorem writP{G:Heap}{w ht:Int}{v:Value}{l:List UInt8}{k:UInt8}(hG:G.length≤lo)(hG2:lo≤G.length)(hg:G.get 0=some powC)(hx:Ext G H)(hl:SlU G v l):Ev cp lo 12 [.agg #[.int .i64 w,.int .i64 ht,v],encU k] H (fun r H'=>Ext H H'∧∃u,r=.tuple #[u,.int .i64 (wrote w ht k l).2]∧SlU H' u (wrote w ht k l).1):=by
 obtain⟨ad,c,rfl⟩:=hl.len
 have hkl:=k.toNat_lt
 have e2:(k.toNat:Int).tmod 2=((k.toNat%2:Nat):Int):=by rw[Int.tmod_eq_emod_of_nonneg (by omega)];omega
 have e4:(k.toNat:Int).tmod 4=((k.toNat%4:Nat):Int):=by rw[Int.tmod_eq_emod_of_nonneg (by omega)];omega
 refine st12 ?_;unfold bd12 cf12;simp only[kB,ctlB]
 repeat' ((first|refine xSNb ?_|refine xONb rfl ?_);(try simp only[ctlB]))
 have hxb:Ext H (H++[some [Value.int IntKind.i64 w,Value.int IntKind.i64 ht,Value.slice ad l.length c]]):=Ext.app _ _
 have hgb:(H++[some [Value.int IntKind.i64 w,Value.int IntKind.i64 ht,Value.slice ad l.length c]]).get H.length=some [Value.int IntKind.i64 w,Value.int IntKind.i64 ht,Value.slice ad l.length c]:=get_app0
 generalize H++[some [Value.int IntKind.i64 w,Value.int IntKind.i64 ht,Value.slice ad l.length c]]=Hb at hxb hgb
 refine aw_midX (fun S' H'=>Hb=H'∧∃x:Nat,x=(if k.toNat%2=1 then 2 else 1)∧∃(z:Nat→Value),S'=[z 0,encU k,.pointer (some ⟨H.length,0,none⟩),.slice none 0 0,.int .i64 0,.int .i64 (x:Nat),z 6,z 7,z 8]) ?_ ?_
 ·refine xCNb (fun h=>?_) (fun h=>?_)
  ·have k2:k.toNat%2=1:=by simp at h;omega
   clear h
   (try simp only[ctlB])
   repeat' ((first|refine xSNb ?_|refine xONb rfl ?_);(try simp only[ctlB]))
   exact⟨trivial,2,by rw[if_pos k2],exZNf rfl⟩
  ·have k2:¬ k.toNat%2=1:=by simp at h;omega
   clear h
   (try simp only[ctlB])
   exact⟨trivial,1,by rw[if_neg k2],exZNf rfl⟩
 rintro S' H' ⟨rfl,x,hx2,z,rfl⟩
 replace hx2:False∨_:=.inr hx2
 have hxle:x≤2:=by rw[hx2.resolve_left id];split<;>omega
 (try simp only[ctlB])
 refine aw_midX (fun S' H'=>Hb=H'∧∃x:Nat,x=fmtK k∧∃(z:Nat→Value),S'=[z 0,encU k,.pointer (some ⟨H.length,0,none⟩),.slice none 0 0,.int .i64 0,.int .i64 (x:Nat),z 6,z 7,z 8]) ?_ ?_
 ·refine xCNb (fun h=>?_) (fun h=>?_)
  ·have k4:k.toNat%4>1:=by simp at h;omega
   clear h
   (try simp only[ctlB])
   repeat' ((first|refine xSNb ?_|refine xONb rfl ?_);(try simp only[ctlB]))
   exact⟨trivial,x+3,by unfold fmtK;rw[if_pos k4,hx2.resolve_left id],exZNf (by first|rfl|(simp only[Int.natCast_add,Int.natCast_one];rfl)|simp only[Int.natCast_add,Int.natCast_one])⟩
  ·have k4:¬ k.toNat%4>1:=by simp at h;omega
   clear h
   (try simp only[ctlB])
   exact⟨trivial,x,by unfold fmtK;rw[if_neg k4,hx2.resolve_left id,Nat.add_zero],exZNf rfl⟩
 clear hx2 hxle x
 rintro S' H' ⟨rfl,x,hx3,z,rfl⟩
 subst hx3
 generalize hf:fmtK k=f
 (try simp only[ctlB])
 refine xHNb ?_
 refine wpH_call0 (wrP (f:=(f:Nat)) hG hG2 hg (hx.trans hxb) hl) ?_
 rintro r H1 ⟨hx1,u1,rfl,hu1⟩
 have hgb1:=hx1.get hgb
 obtain⟨au,cu,rfl⟩:=hu1.len
 have hw:wrote w ht k l=if (wres w ht f l).2≠0∨l.length>2000 then([],0) else((wres w ht f l).1,(f:Int)):=by rw[←hf];rfl
 rw[hw]
 clear hw
 generalize wres w ht f l=q at hu1
 by_cases hc:q.2≠0∨l.length>2000
 ·rw[if_pos hc]
  (try simp only[ctlB])
  repeat' ((first|refine xSNb ?_|refine xONb rfl ?_);(try simp only[ctlB]))
  refine xCNb (fun h=>?_) (fun h=>?_)
  ·(try simp only[ctlB])
   repeat' ((first|refine xSNb ?_|refine xONb rfl ?_);(try simp only[ctlB]))
   refine xRNb ?_
   exact⟨hxb.trans hx1,_,rfl,.inl ⟨rfl,rfl⟩⟩
  ·exfalso;simp at h;omega
 ·rw[if_neg hc]
  (try simp only[ctlB])
  repeat' ((first|refine xSNb ?_|refine xONb rfl ?_);(try simp only[ctlB]))
  refine xCNb (fun h=>?_) (fun h=>?_)
  ·exfalso;simp at h;omega
  clear h
  (try simp only[ctlB])
  repeat' ((first|refine xSNb ?_|refine xONb rfl ?_);(try simp only[ctlB]))
  refine xRNb ?_
  exact⟨hxb.trans hx1,_,rfl,hu1⟩
theorem lngP{v:Value}{l:List UInt8}{f:Int}(hl:SlU H v l)(hlen:l.length≤4294967296):Ev cp lo 14 [v,.int .i64 f] H (fun r H'=>H=H'∧r=.int .i64 (if f<4 then(l.length:Int)-1 else(l.length:Int))):=by
 obtain⟨ad,c,rfl⟩:=hl.len
 by_cases hf:f<4
 ·rw[if_pos hf]
  refine st14 ?_;unfold bd14 cf14;simp only[kB,ctlB]
  repeat' ((first|refine xSNb ?_|refine xONb rfl ?_);(try simp only[ctlB]))
  refine xCNb (fun h=>?_) (fun h=>?_)
  ·(try simp only[ctlB])
   repeat' ((first|refine xSNb ?_|refine xONb rfl ?_);(try simp only[ctlB]))
   refine xRNb ?_
   exact⟨rfl,rfl⟩
  ·exfalso;simp at h;done
 ·rw[if_neg hf]
  refine st14 ?_;unfold bd14 cf14;simp only[kB,ctlB]
  repeat' ((first|refine xSNb ?_|refine xONb rfl ?_);(try simp only[ctlB]))
  refine xCNb (fun h=>?_) (fun h=>?_)
  ·exfalso;simp at h;done
  clear h
  (try simp only[ctlB])
  repeat' ((first|refine xSNb ?_|refine xONb rfl ?_);(try simp only[ctlB]))
  refine xRNb ?_
  exact⟨rfl,rfl⟩
theorem flsP{l:List UInt8}{e:Int}(hlo:lo≤H.length)(hlen:l.length≤4194304)(hr:readS l=.inl e):Ev cp lo 16 [strV l,.int .i64 e] H (fun r H'=>Ext H H'∧r=.bool true):=by
 have hs:=hs_s2bU (lo:=lo) (H:=H) (l:=l)
 refine st16 ?_;unfold bd16 cf16;simp only[kB,ctlB]
 repeat' ((first|refine xSNb ?_|refine xONb rfl ?_);(try simp only[ctlB]))
 have hsl:SlU (H++[some (uL l)]) (.slice (some ⟨H.length,0,some 1⟩) l.length l.length) l:=Sl.whole (by rw[get_app0]) rfl
 have hxb:Ext H (H++[some (uL l)]):=Ext.app _ _
 clear hs
 generalize H++[some (uL l)]=Hb at hsl hxb
 have hlb:=hxb.1
 refine xHNb ?_
 refine wpH_call0 (readP hsl (by omega) hlen) ?_
 rintro r H1 ⟨hx1,hr1⟩
 have hl1:=hx1.1
 rw[hr]at hr1
 subst hr1
 clear hr
 (try simp only[ctlB])
 repeat' ((first|refine xSNb ?_|refine xONb rfl ?_);(try simp only[ctlB]))
 have hx2:Ext H (H1++[some [Value.int .i64 0,.int .i64 0,.slice none 0 0]]):=(hxb.trans hx1).trans (Ext.app _ _)
 have hg2:(H1++[some [Value.int .i64 0,.int .i64 0,.slice none 0 0]]).get H1.length=some [Value.int .i64 0,.int .i64 0,.slice none 0 0]:=get_app0
 generalize H1++[some [Value.int .i64 0,.int .i64 0,.slice none 0 0]]=H2 at hx2 hg2
 have hl2:=hx2.1
 refine aw_hv_if (t:=true) (xENb) (by simp(disch:=first|omega|(simp only[lenB];omega))only[evB,xBNb,Nat.reduceAdd,Nat.reduceBEq, *]) (by simp(disch:=first|omega|(simp only[lenB];omega))only[evB,xBNb,Nat.reduceAdd,Nat.reduceBEq, *];try rfl) (fun _=>⟨_,xENb,?_⟩) (fun h=>by cases h)
 refine wpH_call0 (sameV (px:=[]) (px':=[]) (.inl ⟨rfl,rfl⟩) (.inl ⟨rfl,rfl⟩) (by omega) (by simp)) ?_
 rintro r H3 ⟨hx3,rfl⟩
 rw[show decide ((0:Int)=0∧(0:Int)=0∧([]:List UInt8)=[])=true from rfl]
 (try simp only[ctlB])
 repeat' ((first|refine xSNb ?_|refine xONb rfl ?_);(try simp only[ctlB]))
 refine xRNb ?_
 exact⟨hx2.trans hx3,rfl⟩
theorem wrote_in{w ht:Int}{k:UInt8}{l:List UInt8}(h:(wrote w ht k l).1≠[]):∃W T:Nat,w=W∧ht=T∧valB W T l.length=true∧¬ badPx (fmtK k) l∧l.length≤2000∧wrote w ht k l=(outB (fmtK k) W T l,((fmtK k:Nat):Int)):=by
 unfold wrote at h ⊢
 by_cases hc:(wres w ht (fmtK k:Nat) l).2≠0∨l.length>2000
 ·rw[if_pos hc]at h;exact absurd rfl h
 rw[if_neg hc]at h ⊢
 have h2:(wres w ht (fmtK k:Nat) l).2=0:=Decidable.not_not.1 (fun h=>hc (.inl h))
 have hlen:l.length≤2000:=by
  have:¬ l.length>2000:=fun h=>hc (.inr h)
  omega
 clear hc
 unfold wres at h h2 ⊢
 by_cases c1:¬ (((fmtK k:Nat):Int)=1∨((fmtK k:Nat):Int)=2∨((fmtK k:Nat):Int)=4∨((fmtK k:Nat):Int)=5)∨valB w ht l.length=false
 ·rw[if_pos c1]at h2;cases h2
 rw[if_neg c1]at h h2 ⊢
 by_cases c2:badPx ((fmtK k:Nat):Int).toNat l
 ·rw[if_pos c2]at h2;cases h2
 rw[if_neg c2]at h h2 ⊢
 have hv:valB w ht l.length=true:=by
  cases hv:valB w ht l.length with
  | true=>rfl
  | false=>exact absurd (.inr hv) c1
 obtain⟨W,T,rfl,rfl⟩:=val_pos hv
 exact⟨W,T,rfl,rfl,hv,c2,hlen,rfl⟩
theorem rowsW_len2{f w h:Nat}{px:List UInt8}(hl:px.length=w*h):∀y,y≤h→(rowsW f w px y).length≤y*(5*w+1)
 | 0,_=>by simp[rowsW]
 | y+1,hy=>by
  have hrl:=row_len hl (show y<h by omega)
  have h1:=rowW_len f ((px.drop (y*w)).take w)
  rw[hrl]at h1
  have h2:=rowsW_len2 (f:=f) hl y (by omega)
  rw[rowsW,List.length_append,Nat.succ_mul]
  omega
theorem outB_len{f w h:Nat}{px:List UInt8}(hv:valB w h px.length=true)(hlen:px.length≤2000):(outB f w h px).length≤12017:=by
 obtain⟨w1,w2,h1,h2,n1,n2,_,_⟩:=val_nat hv
 have h3:=headB_len (f:=f) w2 h2
 have h4:=rowsW_len2 (f:=f) (show px.length=w*h by omega) h (Nat.le_refl _)
 have h5:h*(5*w+1)=5*(w*h)+h:=by rw[Nat.mul_add,Nat.mul_one,Nat.mul_left_comm,Nat.mul_comm h w]
 have h6:h≤w*h:=Nat.le_mul_of_pos_left h w1
 unfold outB
 rw[List.length_append]
 omega
theorem outB_pos{f w h:Nat}{px:List UInt8}:3≤(outB f w h px).length:=by
 unfold outB headB
 simp
end
end Go.Proofs.YtpbiaeiebhgmgaaDoor
namespace Go.Proofs.YtpbiaeiebhgmgaaDoor
open Go.Abs
set_option linter.unusedSimpArgs false
set_option linter.unusedVariables false
set_option maxRecDepth 20000
theorem isRead_ok{H:Heap}{r:Value}{w h f p:Nat}{px:List UInt8}(hr:isRead H r (.inr ⟨w,h,px,f,p⟩)):∃u,r=.tuple #[.agg #[.int .i64 (w:Nat),.int .i64 (h:Nat),u],.int .i64 (f:Nat),.int .i64 (p:Nat),.int .i64 0]∧SlU H u px:=hr
theorem cnt_int{f n:Nat}(hn:3≤n):(if ((f:Nat):Int)<4 then(n:Int)-1 else(n:Int))=((if f<4 then n-1 else n:Nat):Int):=by
 split<;>split<;>omega
theorem readS_out{f w h:Nat}{px tl:List UInt8}(hf:f=1∨f=2∨f=4∨f=5)(hv:valB w h px.length=true)(hb:¬ badPx f px):readS (outB f w h px++tl)=.inr ⟨w,h,px,f,if f<4 then(outB f w h px).length-1 else(outB f w h px).length⟩:=by
 have ha:At (outB f w h px++tl) 0 (headD f w h []++(10::rowsW f w px h)):=by
  refine⟨tl,?_⟩
  unfold outB
  rw[headB_D]
  simp
 rw[readS_file hf (.inl rfl) hv hb ha]
 unfold cntS outB
 rw[headB_D]
 congr 2
 simp only[List.length_append,List.length_cons,List.length_nil]
 rcases hf with rfl|rfl|rfl|rfl<;>simp<;>omega
theorem sl_cut{H:Heap}{v:Value}{l:List UInt8}{n:Nat}(h:SlU H v l)(hn:n≤l.length):∃v',lsem (.sl 1 false true false) [v,.int .i64 (n:Nat)] H=some v'∧SlU H v' (l.take n):=by
 have hln:(l.take n).length=n:=by simp;omega
 rcases h with ⟨rfl,rfl⟩|⟨b,o,sp,cap,xs,rfl,h2,h3,h4,h5,h6⟩
 ·have:n=0:=by simpa using hn
  subst this
  exact⟨.slice none 0 0,rfl,.inl ⟨rfl,rfl⟩⟩
 ·have hd:(xs.drop o).take n=(l.take n).map encU:=by
   rw[List.map_take,←h3,List.take_take,Nat.min_eq_left hn]
  rcases h5 with rfl|rfl
  ·refine⟨.slice (some ⟨b,o,none⟩) n cap,?_,.inr ⟨b,_,none,cap,xs,by rw[hln],h2,by rw[hln];exact hd,by rw[hln];omega,.inl rfl,by rw[hln];omega⟩⟩
   rw[ls_slx,bd_hi (by omega) (by omega)]
   simp
  ·refine⟨.slice (some ⟨b,o,some 1⟩) n cap,?_,.inr ⟨b,_,some 1,cap,xs,by rw[hln],h2,by rw[hln];exact hd,by rw[hln];omega,.inr rfl,by rw[hln];omega⟩⟩
   rw[ls_sli,bd_hi (by omega) (by omega)]
   simp
section
variable {H:Heap}
theorem lawRT{w ht:Int}{v tv:Value}{l tl:List UInt8}{k:UInt8}(hg:H.get 0=some powC)(hl:SlU H v l)(htl:SlU H tv tl):Ev cp H.length 4 [.agg #[.int .i64 w,.int .i64 ht,v],encU k,tv] H (fun r _=>r=.bool true):=by
 obtain⟨ad,c,rfl⟩:=hl.len
 obtain⟨at',ct,rfl⟩:=htl.len
 refine st4 ?_;unfold bd4 cf4;simp only[kB,ctlB]
 repeat' ((first|refine xSNb ?_|refine xONb rfl ?_);(try simp only[ctlB]))
 have hxb:Ext H (H++[some [Value.int IntKind.i64 w,Value.int IntKind.i64 ht,Value.slice ad l.length c]]):=Ext.app _ _
 have hgb:(H++[some [Value.int IntKind.i64 w,Value.int IntKind.i64 ht,Value.slice ad l.length c]]).get H.length=some [Value.int IntKind.i64 w,Value.int IntKind.i64 ht,Value.slice ad l.length c]:=get_app0
 generalize H++[some [Value.int IntKind.i64 w,Value.int IntKind.i64 ht,Value.slice ad l.length c]]=Hb at hxb hgb
 refine xHNb ?_
 refine wpH_call0 (writP (Nat.le_refl _) (Nat.le_refl _) hg hxb hl) ?_
 rintro r H1 ⟨hx1,u1,rfl,hu1⟩
 have hgb1:=hx1.get hgb
 have hy1:=hxb.trans hx1
 have hl1:=hy1.1
 by_cases hp:(wrote w ht k l).1=[]
 ·rw[hp]at hu1
  generalize (wrote w ht k l).2=q
  obtain⟨a1,c1,rfl⟩:=hu1.len
  clear hp
  (try simp only[ctlB])
  repeat' ((first|refine xSNb ?_|refine xONb rfl ?_);(try simp only[ctlB]))
  refine xCNb (fun h=>?_) (fun h=>?_)
  ·(try simp only[ctlB])
   refine xHNb ?_
   refine wpH_call0 (exEv hl1) ?_
   rintro r H2 ⟨rfl,_⟩
   (try simp only[ctlB])
   repeat' ((first|refine xSNb ?_|refine xONb rfl ?_);(try simp only[ctlB]))
   refine xRNb ?_
   rfl
  ·exfalso;simp at h
 obtain⟨W,T,rfl,rfl,hv,hb,hlen,hw⟩:=wrote_in hp
 have hfk:=fmtK_in k
 rw[hw]at hu1 ⊢
 clear hp hw
 generalize fmtK k=f at hu1 hb hfk ⊢
 have hrd:=fun tl=>readS_out (tl:=tl) hfk hv hb
 have hpl:=outB_len (f:=f) hv hlen
 have hpp:=outB_pos (f:=f) (w:=W) (h:=T) (px:=l)
 have hvn:=val_nat hv
 simp only at hu1
 generalize outB f W T l=p at hu1 hrd hpl hpp
 have hr0:=hrd []
 rw[List.append_nil]at hr0
 replace hr0:False∨_:=.inr hr0
 replace hrd:False∨_:=.inr hrd
 obtain⟨a1,c1,rfl⟩:=hu1.len
 (try simp only[ctlB])
 repeat' ((first|refine xSNb ?_|refine xONb rfl ?_);(try simp only[ctlB]))
 by_cases ht2:tl.length>2000
 ·refine xCNb (fun h=>?_) (fun h=>?_)
  ·(try simp only[ctlB])
   refine xHNb ?_
   refine wpH_call0 (exEv hl1) ?_
   rintro r H2 ⟨rfl,_⟩
   (try simp only[ctlB])
   repeat' ((first|refine xSNb ?_|refine xONb rfl ?_);(try simp only[ctlB]))
   refine xRNb ?_
   rfl
  ·exfalso;simp at h;omega
 refine xCNb (fun h=>?_) (fun h=>?_)
 ·exfalso;rw[Bool.or_eq_true,decide_eq_true_eq,decide_eq_true_eq]at h;omega
 clear h
 (try simp only[ctlB])
 refine xHNb ?_
 refine wpH_call0 (readP hu1 hl1 (by omega)) ?_
 rintro r H2 ⟨hx2,hr2⟩
 rw[hr0.resolve_left id]at hr2
 obtain⟨u2,rfl,hu2⟩:=isRead_ok hr2
 obtain⟨a2,c2,rfl⟩:=hu2.len
 clear hr2 hr0
 have hgb2:=hx2.get hgb1
 have hy2:=hy1.trans hx2
 have hl2:=hy2.1
 have hu1:=hu1.mono hx2
 generalize hcn:(if f<4 then p.length-1 else p.length)=cn at hrd
 have hce:=cnt_int (f:=f) hpp
 rw[hcn]at hce
 replace hcn:False∨_:=.inr hcn
 replace hce:False∨_:=.inr hce
 (try simp only[ctlB])
 repeat' ((first|refine xSNb ?_|refine xONb rfl ?_);(try simp only[ctlB]))
 have hx3:Ext H2 (H2++[some [Value.int .i64 (W:Nat),.int .i64 (T:Nat),.slice a2 l.length c2]]):=Ext.app _ _
 have hg3:(H2++[some [Value.int .i64 (W:Nat),.int .i64 (T:Nat),.slice a2 l.length c2]]).get H2.length=some [Value.int .i64 (W:Nat),.int .i64 (T:Nat),.slice a2 l.length c2]:=get_app0
 generalize H2++[some [Value.int .i64 (W:Nat),.int .i64 (T:Nat),.slice a2 l.length c2]]=H3 at hx3 hg3
 have hgb3:=hx3.get hgb2
 have hy3:=hy2.trans hx3
 have hl3:=hy3.1
 refine xHNb ?_
 refine appU (G:=H3) (X:=[]) (Own.nil hl3) (hu1.mono hx3) (Ext.refl _) (Nat.le_refl _) hl3 (by simp;omega) ?_
 intro v4 b4 H4 ho4 hx4 hb4 hl4
 rw[List.nil_append]at ho4
 (try simp only[ctlB])
 repeat' ((first|refine xSNb ?_|refine xONb rfl ?_);(try simp only[ctlB]))
 refine xHNb ?_
 refine appU ho4 (htl.mono (hy3.trans hx4)) hx4 hb4 hl3 (by omega) ?_
 intro v5 b5 H5 ho5 hx5 hb5 hl5
 (try simp only[ctlB])
 repeat' ((first|refine xSNb ?_|refine xONb rfl ?_);(try simp only[ctlB]))
 refine xHNb ?_
 refine wpH_call0 (readP (Sl.ofOwn ho5) (by omega) (by rw[List.length_append];omega)) ?_
 rintro r H6 ⟨hx6,hr6⟩
 rw[hrd.resolve_left id]at hr6
 obtain⟨u6,rfl,hu6⟩:=isRead_ok hr6
 obtain⟨a6,c6,rfl⟩:=hu6.len
 clear hr6 hrd
 have hx36:=hx5.trans hx6
 have hg6:=hx36.get hg3
 have hgb6:=hx36.get hgb3
 have hl6:=hx36.1
 (try simp only[ctlB])
 repeat' ((first|refine xSNb ?_|refine xONb rfl ?_);(try simp only[ctlB]))
 have hx7:Ext H6 (H6++[some [Value.int .i64 (W:Nat),.int .i64 (T:Nat),.slice a6 l.length c6]]):=Ext.app _ _
 have hg7:(H6++[some [Value.int .i64 (W:Nat),.int .i64 (T:Nat),.slice a6 l.length c6]]).get H6.length=some [Value.int .i64 (W:Nat),.int .i64 (T:Nat),.slice a6 l.length c6]:=get_app0
 generalize H6++[some [Value.int .i64 (W:Nat),.int .i64 (T:Nat),.slice a6 l.length c6]]=H7 at hx7 hg7
 have hx37:=hx36.trans hx7
 have hg37:=hx37.get hg3
 have hgb7:=hx37.get hgb3
 have hl7:=hx37.1
 have hu17:=hu1.mono (hx3.trans hx37)
 have hu27:=hu2.mono (hx3.trans hx37)
 have hu67:=hu6.mono hx7
 have hlv7:=hl.mono (hy3.trans hx37)
 clear hg hg3 hg6 hgb hgb1 hgb2 hgb3 hgb6
 refine aw_hv_if (t:=true) (xENb) (by simp(disch:=first|omega|(simp only[lenB];omega))only[evB,xBNb,Nat.reduceAdd,Nat.reduceBEq, *]) (by simp(disch:=first|omega|(simp only[lenB];omega))only[evB,xBNb,Nat.reduceAdd,Nat.reduceBEq, *];try rfl) (fun _=>⟨_,xENb,?_⟩) (fun h=>by cases h)
 refine wpH_call0 (lngP hu17 (by omega)) ?_
 rintro r H8 ⟨rfl,rfl⟩
 rw[hce.resolve_left id]
 (try simp only[ctlB])
 refine aw_hv_if (t:=true) (xENb) (by simp(disch:=first|omega|(simp only[lenB];omega))only[evB,xBNb,Nat.reduceAdd,Nat.reduceBEq, *]) (by simp(disch:=first|omega|(simp only[lenB];omega))only[evB,xBNb,Nat.reduceAdd,Nat.reduceBEq, *];try rfl) (fun _=>⟨_,xENb,?_⟩) (fun h=>by cases h)
 refine wpH_call0 (sameV hu27 hlv7 (by omega) (by omega)) ?_
 rintro r H8 ⟨hx8,rfl⟩
 rw[show decide (((W:Nat):Int)=(W:Nat)∧((T:Nat):Int)=(T:Nat)∧l=l)=true by simp]
 have hg8:=hx8.get hg7
 have hgb8:=hx8.get hgb7
 have hl8:=hx8.1
 clear hg7 hgb7
 (try simp only[ctlB])
 refine aw_hv_if (t:=true) (xENb) (by simp(disch:=first|omega|(simp only[lenB];omega))only[evB,xBNb,Nat.reduceAdd,Nat.reduceBEq, *]) (by simp(disch:=first|omega|(simp only[lenB];omega))only[evB,xBNb,Nat.reduceAdd,Nat.reduceBEq, *];try rfl) (fun _=>⟨_,xENb,?_⟩) (fun h=>by cases h)
 refine wpH_call0 (sameV (hu67.mono hx8) (hlv7.mono hx8) (by omega) (by omega)) ?_
 rintro r H9 ⟨hx9,rfl⟩
 rw[show decide (((W:Nat):Int)=(W:Nat)∧((T:Nat):Int)=(T:Nat)∧l=l)=true by simp]
 have hl9:=hx9.1
 (try simp only[ctlB])
 refine aw_hv_if (t:=true) (xENb) (by simp(disch:=first|omega|(simp only[lenB];omega))only[evB,xBNb,Nat.reduceAdd,Nat.reduceBEq, *]) (by simp(disch:=first|omega|(simp only[lenB];omega))only[evB,xBNb,Nat.reduceAdd,Nat.reduceBEq, *];try rfl) (fun _=>⟨_,xENb,?_⟩) (fun h=>by cases h)
 refine wpH_call0 (exEv (by omega)) ?_
 rintro r H10 ⟨rfl,_⟩
 (try simp only[ctlB])
 repeat' ((first|refine xSNb ?_|refine xONb rfl ?_);(try simp only[ctlB]))
 refine xRNb ?_
 rfl
theorem lawCU{w ht:Int}{v:Value}{l:List UInt8}{k:UInt8}{n:Nat}(hn:n≤65535)(hg:H.get 0=some powC)(hl:SlU H v l):Ev cp H.length 5 [.agg #[.int .i64 w,.int .i64 ht,v],encU k,.int .u16 (n:Nat)] H (fun r _=>r=.bool true):=by
 obtain⟨ad,c,rfl⟩:=hl.len
 refine st5 ?_;unfold bd5 cf5;simp only[kB,ctlB]
 repeat' ((first|refine xSNb ?_|refine xONb rfl ?_);(try simp only[ctlB]))
 have hxb:Ext H (H++[some [Value.int IntKind.i64 w,Value.int IntKind.i64 ht,Value.slice ad l.length c]]):=Ext.app _ _
 have hgb:(H++[some [Value.int IntKind.i64 w,Value.int IntKind.i64 ht,Value.slice ad l.length c]]).get H.length=some [Value.int IntKind.i64 w,Value.int IntKind.i64 ht,Value.slice ad l.length c]:=get_app0
 generalize H++[some [Value.int IntKind.i64 w,Value.int IntKind.i64 ht,Value.slice ad l.length c]]=Hb at hxb hgb
 refine xHNb ?_
 refine wpH_call0 (writP (Nat.le_refl _) (Nat.le_refl _) hg hxb hl) ?_
 rintro r H1 ⟨hx1,u1,rfl,hu1⟩
 have hgb1:=hx1.get hgb
 have hy1:=hxb.trans hx1
 have hl1:=hy1.1
 by_cases hp:(wrote w ht k l).1=[]
 ·rw[hp]at hu1
  generalize (wrote w ht k l).2=q
  obtain⟨a1,c1,rfl⟩:=hu1.len
  clear hp
  (try simp only[ctlB])
  repeat' ((first|refine xSNb ?_|refine xONb rfl ?_);(try simp only[ctlB]))
  refine xCNb (fun h=>?_) (fun h=>?_)
  ·(try simp only[ctlB])
   refine xHNb ?_
   refine wpH_call0 (exEv hl1) ?_
   rintro r H2 ⟨rfl,_⟩
   (try simp only[ctlB])
   repeat' ((first|refine xSNb ?_|refine xONb rfl ?_);(try simp only[ctlB]))
   refine xRNb ?_
   rfl
  ·exfalso;simp at h
 obtain⟨W,T,rfl,rfl,hv,hb,hlen,hw⟩:=wrote_in hp
 have hfk:=fmtK_in k
 rw[hw]at hu1 ⊢
 clear hp hw
 generalize fmtK k=f at hu1 hb hfk ⊢
 have hrd:=readS_out (tl:=[]) hfk hv hb
 have hpl:=outB_len (f:=f) hv hlen
 have hpp:=outB_pos (f:=f) (w:=W) (h:=T) (px:=l)
 have hvn:=val_nat hv
 simp only at hu1
 generalize outB f W T l=p at hu1 hrd hpl hpp
 rw[List.append_nil]at hrd
 replace hrd:False∨_:=.inr hrd
 obtain⟨a1,c1,rfl⟩:=hu1.len
 (try simp only[ctlB])
 repeat' ((first|refine xSNb ?_|refine xONb rfl ?_);(try simp only[ctlB]))
 by_cases hf2:f=2
 ·refine xCNb (fun h=>?_) (fun h=>?_)
  ·(try simp only[ctlB])
   refine xHNb ?_
   refine wpH_call0 (exEv hl1) ?_
   rintro r H2 ⟨rfl,_⟩
   (try simp only[ctlB])
   repeat' ((first|refine xSNb ?_|refine xONb rfl ?_);(try simp only[ctlB]))
   refine xRNb ?_
   rfl
  ·exfalso;simp at h
 refine xCNb (fun h=>?_) (fun h=>?_)
 ·exfalso;rw[Bool.or_eq_true,decide_eq_true_eq,decide_eq_true_eq]at h;omega
 clear h
 generalize hcn:(if f<4 then p.length-1 else p.length)=cn at hrd
 have hce:=cnt_int (f:=f) hpp
 have hcb:2≤cn∧cn≤p.length:=by rw[←hcn];split<;>omega
 rw[hcn]at hce
 replace hcn:False∨_:=.inr hcn
 replace hce:False∨_:=.inr hce
 (try simp only[ctlB])
 refine xHNb ?_
 refine wpH_call0 (lngP hu1 (by omega)) ?_
 rintro r H8 ⟨rfl,rfl⟩
 rw[hce.resolve_left id]
 have hm:(n:Int).tmod (cn:Nat)=((n%cn:Nat):Int):=by rw[Int.tmod_eq_emod_of_nonneg (by omega)];simp
 have hmb:=Nat.mod_lt n (show 0<cn by omega)
 generalize hq:n%cn=q at hm hmb
 replace hq:False∨_:=.inr hq
 have hcut:=readS_cut (hrd.resolve_left id) hf2 (n:=q) hmb
 obtain⟨v3,e3,hv3⟩:=sl_cut hu1 (n:=q) (by omega)
 have eb:=b2s_sl hv3
 (try simp only[ctlB])
 repeat' ((first|refine xSNb ?_|refine xONb rfl ?_);(try simp only[ctlB]))
 refine aw_midX (fun S' H'=>H1=H'∧∃e:Int,e=(if q<2 then 25 else 10)∧∃(z:Nat→Value),S'=[z 0,z 1,z 2,z 3,z 4,.slice a1 p.length c1,z 6,.int .i64 (q:Nat),.int .i64 (e:Int),z 9,z 10,z 11,z 12,z 13,z 14,z 15]) ?_ ?_
 ·refine xCNb (fun h=>?_) (fun h=>?_)
  ·have h2:q<2:=by simp at h;omega
   clear h
   (try simp only[ctlB])
   repeat' ((first|refine xSNb ?_|refine xONb rfl ?_);(try simp only[ctlB]))
   exact⟨trivial,_,by rw[if_pos h2],exZNf rfl⟩
  ·have h2:¬ q<2:=by simp at h;omega
   clear h
   (try simp only[ctlB])
   exact⟨trivial,_,by rw[if_neg h2],exZNf rfl⟩
 rintro S' H' ⟨rfl,e,he,z,rfl⟩
 rw[←he]at hcut
 clear he
 replace hcut:False∨_:=.inr hcut
 (try simp only[ctlB])
 refine xHNb ?_
 refine wpH_call0 (flsP hl1 (by simp;omega) (hcut.resolve_left id)) ?_
 rintro r H2 ⟨hx2,rfl⟩
 have hl2:=hx2.1
 (try simp only[ctlB])
 refine aw_hv_if (t:=true) (xENb) (by simp(disch:=first|omega|(simp only[lenB];omega))only[evB,xBNb,Nat.reduceAdd,Nat.reduceBEq, *]) (by simp(disch:=first|omega|(simp only[lenB];omega))only[evB,xBNb,Nat.reduceAdd,Nat.reduceBEq, *];try rfl) (fun _=>⟨_,xENb,?_⟩) (fun h=>by cases h)
 refine wpH_call0 (exEv (by omega)) ?_
 rintro r H10 ⟨rfl,_⟩
 (try simp only[ctlB])
 repeat' ((first|refine xSNb ?_|refine xONb rfl ?_);(try simp only[ctlB]))
 refine xRNb ?_
 rfl
end
end Go.Proofs.YtpbiaeiebhgmgaaDoor
namespace Go.Proofs.YtpbiaeiebhgmgaaDoor
open Go.Abs
set_option linter.unusedSimpArgs false
set_option linter.unusedVariables false
set_option maxRecDepth 20000
def fixC(c:UInt8):UInt8:=if c=10∨c=13 then 46 else c
theorem fixC_ok(c:UInt8):fixC c≠10∧fixC c≠13:=by
 unfold fixC
 split
 ·decide
 ·rename_i h;exact⟨fun e=>h (.inl e),fun e=>h (.inr e)⟩
theorem out_take{f w h:Nat}{px:List UInt8}:(outB f w h px).take 3=[80,dig f,10]:=by
 unfold outB headB;simp
theorem out_drop{f w h:Nat}{px:List UInt8}:(outB f w h px).drop 3=decL w++[32]++decL h++(if f=2∨f=5 then[10,50,53,53] else[])++(10::rowsW f w px h):=by
 unfold outB;rw[headB_D];unfold headD;simp
theorem readS_com{f w h:Nat}{px d:List UInt8}(hd:isRem d)(hf:f=1∨f=2∨f=4∨f=5)(hv:valB w h px.length=true)(hb:¬ badPx f px):readS ((outB f w h px).take 3++d++(outB f w h px).drop 3)=.inr ⟨w,h,px,f,(if f<4 then(outB f w h px).length-1 else(outB f w h px).length)+d.length⟩:=by
 have ha:At ((outB f w h px).take 3++d++(outB f w h px).drop 3) 0 (headD f w h d++(10::rowsW f w px h)):=by
  rw[out_take,out_drop]
  unfold headD
  refine⟨[],?_⟩
  simp
 rw[readS_file hf hd hv hb ha]
 unfold cntS outB
 rw[headB_D]
 unfold headD
 congr 2
 simp only[List.length_append,List.length_cons,List.length_nil]
 rcases hf with rfl|rfl|rfl|rfl<;>simp<;>omega
theorem appB{cp:FuncId→Option CF}{lo:Nat}{z:List Value}{G H:Heap}{v:Value}{b:Nat}{X:List UInt8}{c:UInt8}{R:Value→Heap→Prop}(ho:Own lo 1 H v b (uL X))(hx:Ext G H)(hG:G.length≤b)(hlo:lo≤G.length)(hbig:X.length≤4294967000)
  (k:∀v' b' H',Own lo 1 H' v' b' (uL (X++[c]))→Ext G H'→G.length≤b'→H.length≤H'.length→R v' H'):wpH cp lo (.app 1 z) [v,.slice (some ⟨H.length,0,none⟩) 1 1] (H++[some [encU c]]) R:=by
 have hGl:=hx.1
 refine wpH_app1 ho (by omega) (by rw[uL_len];exact hbig) ?_
 intro v' H' ho' hk hl'
 refine k v' (H.length+1) H' ?_ (hk.ext hx hG) (by omega) (by omega)
 rw[uL_app];exact ho'
section
variable {H:Heap}
theorem lawCO{w ht:Int}{v cv:Value}{l com:List UInt8}{k:UInt8}(hg:H.get 0=some powC)(hl:SlU H v l)(hcm:SlU H cv com):Ev cp H.length 6 [.agg #[.int .i64 w,.int .i64 ht,v],encU k,cv] H (fun r _=>r=.bool true):=by
 obtain⟨ad,c,rfl⟩:=hl.len
 obtain⟨ac,cc,rfl⟩:=hcm.len
 refine st6 ?_;unfold bd6 cf6;simp only[kB,ctlB]
 repeat' ((first|refine xSNb ?_|refine xONb rfl ?_);(try simp only[ctlB]))
 have hxb:Ext H (H++[some [Value.int IntKind.i64 w,Value.int IntKind.i64 ht,Value.slice ad l.length c]]):=Ext.app _ _
 have hgb:(H++[some [Value.int IntKind.i64 w,Value.int IntKind.i64 ht,Value.slice ad l.length c]]).get H.length=some [Value.int IntKind.i64 w,Value.int IntKind.i64 ht,Value.slice ad l.length c]:=get_app0
 generalize H++[some [Value.int IntKind.i64 w,Value.int IntKind.i64 ht,Value.slice ad l.length c]]=Hb at hxb hgb
 refine xHNb ?_
 refine wpH_call0 (writP (Nat.le_refl _) (Nat.le_refl _) hg hxb hl) ?_
 rintro r H1 ⟨hx1,u1,rfl,hu1⟩
 have hgb1:=hx1.get hgb
 have hy1:=hxb.trans hx1
 have hl1:=hy1.1
 by_cases hp:(wrote w ht k l).1=[]
 ·rw[hp]at hu1
  generalize (wrote w ht k l).2=q
  obtain⟨a1,c1,rfl⟩:=hu1.len
  clear hp
  (try simp only[ctlB])
  repeat' ((first|refine xSNb ?_|refine xONb rfl ?_);(try simp only[ctlB]))
  refine xCNb (fun h=>?_) (fun h=>?_)
  ·(try simp only[ctlB])
   refine xHNb ?_
   refine wpH_call0 (exEv hl1) ?_
   rintro r H2 ⟨rfl,_⟩
   (try simp only[ctlB])
   repeat' ((first|refine xSNb ?_|refine xONb rfl ?_);(try simp only[ctlB]))
   refine xRNb ?_
   rfl
  ·exfalso;simp at h
 obtain⟨W,T,rfl,rfl,hv,hb,hlen,hw⟩:=wrote_in hp
 have hfk:=fmtK_in k
 rw[hw]at hu1 ⊢
 clear hp hw
 generalize fmtK k=f at hu1 hb hfk ⊢
 have hrd:=readS_com (d:=35::(com.map fixC++[10])) (.inr ⟨_,rfl,fun c hc=>by obtain⟨x,_,rfl⟩:=List.mem_map.1 hc;exact fixC_ok x⟩) hfk hv hb
 have hpl:=outB_len (f:=f) hv hlen
 have hpp:=outB_pos (f:=f) (w:=W) (h:=T) (px:=l)
 have hvn:=val_nat hv
 simp only at hu1
 generalize outB f W T l=p at hu1 hrd hpl hpp
 generalize hcn:(if f<4 then p.length-1 else p.length)=cn at hrd
 have hce:=cnt_int (f:=f) hpp
 have hcb:2≤cn∧cn≤p.length:=by rw[←hcn];split<;>omega
 rw[hcn]at hce
 replace hcn:False∨_:=.inr hcn
 replace hce:False∨_:=.inr hce
 have edl:(35::(com.map fixC++[10])).length=com.length+2:=by simp
 rw[edl]at hrd
 clear edl
 replace hrd:False∨_:=.inr hrd
 obtain⟨a1,c1,rfl⟩:=hu1.len
 (try simp only[ctlB])
 repeat' ((first|refine xSNb ?_|refine xONb rfl ?_);(try simp only[ctlB]))
 by_cases ht2:com.length>200
 ·refine xCNb (fun h=>?_) (fun h=>?_)
  ·(try simp only[ctlB])
   refine xHNb ?_
   refine wpH_call0 (exEv hl1) ?_
   rintro r H2 ⟨rfl,_⟩
   (try simp only[ctlB])
   repeat' ((first|refine xSNb ?_|refine xONb rfl ?_);(try simp only[ctlB]))
   refine xRNb ?_
   rfl
  ·exfalso;rw[Bool.or_eq_false_iff,decide_eq_false_iff_not,decide_eq_false_iff_not]at h;omega
 refine xCNb (fun h=>?_) (fun h=>?_)
 ·exfalso;rw[Bool.or_eq_true,decide_eq_true_eq,decide_eq_true_eq]at h;omega
 clear h
 obtain⟨v3,e3,hv3⟩:=sl_cut hu1 (n:=3) hpp
 obtain⟨v4,e4,hv4⟩:=sl_adv hu1 (n:=3) hpp
 have e3:lsem (LOp.sl 1 false true false) [.slice a1 p.length c1,.int .i64 3] H1=some v3:=e3
 (try simp only[ctlB])
 repeat' ((first|refine xSNb ?_|refine xONb rfl ?_);(try simp only[ctlB]))
 refine xHNb ?_
 refine appU (G:=H1) (X:=[]) (Own.nil hl1) hv3 (Ext.refl _) (Nat.le_refl _) hl1 (by simp;omega) ?_
 intro v5 b5 H5 ho5 hx5 hb5 hl5
 rw[List.nil_append]at ho5
 clear e3
 (try simp only[ctlB])
 repeat' ((first|refine xSNb ?_|refine xONb rfl ?_);(try simp only[ctlB]))
 refine xHNb ?_
 refine appB (c:=35) ho5 hx5 hb5 hl1 (by simp;omega) ?_
 intro v6 b6 H6 ho6 hx6 hb6 hl6
 have hpm:(p.take 3).length=3:=by simp;omega
 (try simp only[ctlB])
 repeat' ((first|refine xSNb ?_|refine xONb rfl ?_);(try simp only[ctlB]))
 refine aw_loop' (fun m S H'=>∃(k:Nat) (v7:Value) (b7:Nat),m+k=com.length∧Own H.length 1 H' v7 b7 (uL (p.take 3++[35]++(com.take k).map fixC))∧Ext H1 H'∧H1.length≤b7∧∃(z:Nat→Value),S=[.agg #[.int .i64 (W:Nat),.int .i64 (T:Nat),.slice ad l.length c],z 1,.slice ac com.length cc,.pointer (some ⟨H.length,0,none⟩),z 4,.slice a1 p.length c1,.int .i64 (f:Nat),v7,.int .i64 (k:Nat),z 9,z 10,z 11,z 12,z 13,z 14,z 15,z 16,z 17,z 18,z 19,z 20,z 21,z 22,z 23,z 24,z 25,z 26,z 27,z 28,z 29,z 30,z 31,z 32,z 33,z 34,z 35,z 36,z 37,z 38]) com.length ⟨0,_,_,by omega,by simpa using ho6,hx6,hb6,exZNf rfl⟩ ?_
 clear ho6 ho5 e4 hv4 hx6 hb6 hl6 hx5 hb5 hl5 v6 H6 v5 H5
 rintro m S H' ⟨k,v7,b7,hm,ho,hx,hb7,z,rfl⟩
 replace hm:m+k≤com.length∧com.length≤m+k:=by omega
 have hlx:=hx.1
 (try simp only[ctlB])
 by_cases hkl:k<com.length
 ·have hd:decide ((k:Int)<(com.length:Nat))=true:=decide_eq_true (by omega)
  obtain⟨b4,o4,xs4,i4,g4,x4⟩:=sl_at (hcm.mono (hy1.trans hx)) hkl
  have htk:(com.take (k+1)).map fixC=(com.take k).map fixC++[fixC (com.getD k 0)]:=by
   have e:=List.take_add_one (l:=com) (i:=k)
   rw[e,List.getElem?_eq_getElem hkl,List.map_append,List.getD_eq_getElem?_getD,List.getElem?_eq_getElem hkl]
   rfl
  have hbl:(p.take 3++[35]++(com.take k).map fixC).length≤300:=by simp;omega
  replace htk:False∨_:=.inr htk
  generalize com.getD k 0=d at x4 htk
  have hdl:=d.toNat_lt
  refine xCNb (fun h=>?_) (fun h=>?_)
  ·clear h
   (try simp only[ctlB])
   repeat' ((first|refine xSNb ?_|refine xONb rfl ?_);(try simp only[ctlB]))
   refine aw_midX (fun S2 H2=>H'=H2∧∃q,q=fixC d∧∃(z:Nat→Value),S2=[.agg #[.int .i64 (W:Nat),.int .i64 (T:Nat),.slice ad l.length c],z 1,.slice ac com.length cc,.pointer (some ⟨H.length,0,none⟩),z 4,.slice a1 p.length c1,.int .i64 (f:Nat),v7,.int .i64 (k:Nat),encU q,z 10,z 11,z 12,z 13,z 14,z 15,z 16,z 17,z 18,z 19,z 20,z 21,z 22,z 23,z 24,z 25,z 26,z 27,z 28,z 29,z 30,z 31,z 32,z 33,z 34,z 35,z 36,z 37,z 38]) ?_ ?_
   ·refine xCNb (fun h=>?_) (fun h=>?_)
    ·have h2:d=10∨d=13:=by
      rw[Bool.or_eq_true,decide_eq_true_eq,decide_eq_true_eq]at h
      rcases h with h|h
      ·exact .inl (UInt8.toNat_inj.1 (show d.toNat=10 by omega))
      ·exact .inr (UInt8.toNat_inj.1 (show d.toNat=13 by omega))
     clear h
     (try simp only[ctlB])
     repeat' ((first|refine xSNb ?_|refine xONb rfl ?_);(try simp only[ctlB]))
     exact⟨trivial,46,by unfold fixC;rw[if_pos h2],exZNf rfl⟩
    ·have h2:¬ (d=10∨d=13):=by
      rw[Bool.or_eq_false_iff,decide_eq_false_iff_not,decide_eq_false_iff_not]at h
      rintro(rfl|rfl)
      ·exact h.1 rfl
      ·exact h.2 rfl
     clear h
     (try simp only[ctlB])
     exact⟨trivial,d,by unfold fixC;rw[if_neg h2],exZNf rfl⟩
   rintro S2 H2 ⟨rfl,q,hq,z,rfl⟩
   rw[←hq]at htk
   clear hq
   (try simp only[ctlB])
   repeat' ((first|refine xSNb ?_|refine xONb rfl ?_);(try simp only[ctlB]))
   refine xHNb ?_
   refine appB (c:=q) ho hx hb7 hl1 (by omega) ?_
   intro v8 b8 H8 ho8 hx8 hb8 hl8
   (try simp only[ctlB])
   repeat' ((first|refine xSNb ?_|refine xONb rfl ?_);(try simp only[ctlB]))
   refine⟨m-1,by omega,k+1,v8,b8,by omega,?_,hx8,hb8,exZNf (by first|rfl|(simp only[Int.natCast_add,Int.natCast_one];rfl)|simp only[Int.natCast_add,Int.natCast_one])⟩
   rw[htk.resolve_left id,←List.append_assoc]
   exact ho8
  ·exfalso;simp at h
 ·have hd:decide ((k:Int)<(com.length:Nat))=false:=decide_eq_false (by omega)
  have htk:com.take k=com:=List.take_of_length_le (by omega)
  rw[htk]at ho
  clear htk
  refine xCNb (fun h=>?_) (fun h=>?_)
  ·exfalso;simp at h
  clear h
  (try simp only[ctlB])
  repeat' ((first|refine xSNb ?_|refine xONb rfl ?_);(try simp only[ctlB]))
  refine xHNb ?_
  refine appB (c:=10) ho hx hb7 hl1 (by simp;omega) ?_
  intro v8 b8 H8 ho8 hx8 hb8 hl8
  obtain⟨v9,e9,hv9⟩:=sl_adv (hu1.mono hx8) (n:=3) hpp
  have e9:lsem (LOp.sl 1 true false false) [.slice a1 p.length c1,.int .i64 3] H8=some v9:=e9
  have hl18:=hx8.1
  (try simp only[ctlB])
  repeat' ((first|refine xSNb ?_|refine xONb rfl ?_);(try simp only[ctlB]))
  refine xHNb ?_
  refine appU ho8 hv9 hx8 hb8 hl1 (by simp;omega) ?_
  intro v10 b10 H10 ho10 hx10 hb10 hl10
  clear e9
  have eF:p.take 3++[35]++com.map fixC++[10]++p.drop 3=p.take 3++(35::(com.map fixC++[10]))++p.drop 3:=by simp
  rw[eF]at ho10
  clear eF
  have hl110:=hx10.1
  (try simp only[ctlB])
  repeat' ((first|refine xSNb ?_|refine xONb rfl ?_);(try simp only[ctlB]))
  refine xHNb ?_
  refine wpH_call0 (readP (Sl.ofOwn ho10) (by omega) (by simp;omega)) ?_
  rintro r H11 ⟨hx11,hr11⟩
  rw[hrd.resolve_left id]at hr11
  obtain⟨u6,rfl,hu6⟩:=isRead_ok hr11
  obtain⟨a6,c6,rfl⟩:=hu6.len
  clear hr11 hrd
  have hy11:=hx10.trans hx11
  have hl11:=hy11.1
  have hgb11:=hy11.get hgb1
  (try simp only[ctlB])
  repeat' ((first|refine xSNb ?_|refine xONb rfl ?_);(try simp only[ctlB]))
  have hx7:Ext H11 (H11++[some [Value.int .i64 (W:Nat),.int .i64 (T:Nat),.slice a6 l.length c6]]):=Ext.app _ _
  have hg7:(H11++[some [Value.int .i64 (W:Nat),.int .i64 (T:Nat),.slice a6 l.length c6]]).get H11.length=some [Value.int .i64 (W:Nat),.int .i64 (T:Nat),.slice a6 l.length c6]:=get_app0
  generalize H11++[some [Value.int .i64 (W:Nat),.int .i64 (T:Nat),.slice a6 l.length c6]]=H12 at hx7 hg7
  have hx12:=hy11.trans hx7
  have hl12:=hx12.1
  have hgb12:=hx12.get hgb1
  clear hg hgb hgb1 hgb11
  refine aw_hv_if (t:=true) (xENb) (by simp(disch:=first|omega|(simp only[lenB];omega))only[evB,xBNb,Nat.reduceAdd,Nat.reduceBEq, *]) (by simp(disch:=first|omega|(simp only[lenB];omega))only[evB,xBNb,Nat.reduceAdd,Nat.reduceBEq, *];try rfl) (fun _=>⟨_,xENb,?_⟩) (fun h=>by cases h)
  refine wpH_call0 (lngP (hu1.mono hx12) (by omega)) ?_
  rintro r H13 ⟨rfl,rfl⟩
  rw[hce.resolve_left id]
  have hadd:((cn+(com.length+2):Nat):Int)=((cn:Int)+(com.length:Nat))+2:=by omega
  (try simp only[ctlB])
  refine aw_hv_if (t:=true) (xENb) (by simp(disch:=first|omega|(simp only[lenB];omega))only[evB,xBNb,Nat.reduceAdd,Nat.reduceBEq, *]) (by simp(disch:=first|omega|(simp only[lenB];omega))only[evB,xBNb,Nat.reduceAdd,Nat.reduceBEq, *];try rfl) (fun _=>⟨_,xENb,?_⟩) (fun h=>by cases h)
  refine wpH_call0 (sameV (hu6.mono hx7) (hl.mono (hy1.trans hx12)) (by omega) (by omega)) ?_
  rintro r H8 ⟨hx8,rfl⟩
  rw[show decide (((W:Nat):Int)=(W:Nat)∧((T:Nat):Int)=(T:Nat)∧l=l)=true by simp]
  have hl8:=hx8.1
  (try simp only[ctlB])
  refine aw_hv_if (t:=true) (xENb) (by simp(disch:=first|omega|(simp only[lenB];omega))only[evB,xBNb,Nat.reduceAdd,Nat.reduceBEq, *]) (by simp(disch:=first|omega|(simp only[lenB];omega))only[evB,xBNb,Nat.reduceAdd,Nat.reduceBEq, *];try rfl) (fun _=>⟨_,xENb,?_⟩) (fun h=>by cases h)
  refine wpH_call0 (exEv (by omega)) ?_
  rintro r H10 ⟨rfl,_⟩
  (try simp only[ctlB])
  repeat' ((first|refine xSNb ?_|refine xONb rfl ?_);(try simp only[ctlB]))
  refine xRNb ?_
  rfl
end
end Go.Proofs.YtpbiaeiebhgmgaaDoor
namespace Go.Proofs.YtpbiaeiebhgmgaaDoor
open Go.Abs
set_option linter.unusedSimpArgs false
set_option linter.unusedVariables false
theorem u8_arg{B:Nat}{H:Heap}{v:Value}(h:HasArg B H (.int .u8) v):∃k:UInt8,v=encU k:=by
 simp only[HasArg,Has]at h
 obtain⟨n,e,hn⟩:=h
 have hm:IntKind.u8.min=0:=by decide
 have hM:IntKind.u8.max=255:=by decide
 rw[hm,hM]at hn
 have ev:v=.int .u8 n:=by simpa using e
 refine⟨UInt8.ofNat n.toNat,?_⟩
 rw[ev]
 show Value.int .u8 n=.int .u8 ((UInt8.ofNat n.toNat).toNat:Nat)
 rw[UInt8.toNat_ofNat_of_lt' (by show n.toNat<256;omega)]
 congr 1;omega
theorem u16_arg{B:Nat}{H:Heap}{v:Value}(h:HasArg B H (.int .u16) v):∃n:Nat,v=.int .u16 (n:Nat)∧n≤65535:=by
 simp only[HasArg,Has]at h
 obtain⟨n,e,hn⟩:=h
 have hm:IntKind.u16.min=0:=by decide
 have hM:IntKind.u16.max=65535:=by decide
 rw[hm,hM]at hn
 have ev:v=.int .u16 n:=by simpa using e
 refine⟨n.toNat,?_,by omega⟩
 rw[ev]
 congr 1;omega
end Go.Proofs.YtpbiaeiebhgmgaaDoor
