/- Netpbm: rows, as the program writes them. Netpbm: bits packed into bytes. Netpbm: a row of any format, as the program writes it. -/
import Derived.Test.YtpbiaeiebhgmgaaDoorJ12
set_option linter.unusedVariables false
set_option linter.unusedSimpArgs false
set_option linter.unusedSectionVars false
namespace Go.Proofs.YtpbiaeiebhgmgaaDoor
open Go.Abs
set_option linter.unusedSimpArgs false
set_option linter.unusedVariables false
set_option maxRecDepth 20000
def sepB(f i:Nat):List UInt8:=if i=0 then[] else if f=1 then(if i%70=0 then[10] else[]) else if i%17=0 then[10] else[32]
def itemB(f:Nat)(c:UInt8):List UInt8:=if f=2 then decL c.toNat else if c=0 then[49] else[48]
def rowB(f:Nat)(l:List UInt8):Nat→List UInt8
 | 0=>[]
 | k+1=>rowB f l k++sepB f k++itemB f (l.getD k 0)
def rowP(f:Nat)(l:List UInt8)(k:Nat):List UInt8:=rowB f l k++(if k=l.length∧0<k then[10] else sepB f k)
theorem rowP_0{f:Nat}{l:List UInt8}:rowP f l 0=[]:=by simp[rowP,rowB,sepB]
theorem rowP_succ{f:Nat}{l:List UInt8}{k:Nat}(h:k<l.length):rowP f l (k+1)=rowP f l k++itemB f (l.getD k 0)++(if k+1=l.length then[10] else sepB f (k+1)):=by
 unfold rowP
 rw[if_neg (show ¬(k=l.length∧0<k) by omega),rowB]
 by_cases e:k+1=l.length
 ·rw[if_pos ⟨e,by omega⟩,if_pos e]
 ·rw[if_neg (fun h=>e h.1),if_neg e]
theorem sep_len(f i:Nat):(sepB f i).length≤1:=by unfold sepB;split<;>(try split)<;>(try split)<;>simp
theorem item_len(f:Nat)(c:UInt8):(itemB f c).length≤4:=by
 unfold itemB
 split
 ·exact decL_4 (by have:=c.toNat_lt;omega)
 ·split<;>simp
theorem rowB_len(f:Nat)(l:List UInt8):∀k,(rowB f l k).length≤5*k
 | 0=>by simp[rowB]
 | k+1=>by
  have:=rowB_len f l k
  have:=sep_len f k
  have:=item_len f (l.getD k 0)
  simp only[rowB,List.length_append];omega
theorem rowP_len(f:Nat)(l:List UInt8)(k:Nat):(rowP f l k).length≤5*k+1:=by
 have:=rowB_len f l k
 have:=sep_len f k
 unfold rowP
 rw[List.length_append]
 split<;>simp<;>omega
section
variable {lo:Nat}{G H:Heap}
theorem own_lo{lo b:Nat}{H:Heap}{v:Value}{c:List Value}(h:Own lo 1 H v b c):lo≤b:=h.1
theorem uL_app(a b:List UInt8):uL (a++b)=uL a++uL b:=List.map_append
theorem uL_len(a:List UInt8):(uL a).length=a.length:=List.length_map _
theorem wpH_app1{z:List Value}{v:Value}{b:Nat}{X:List Value}{c:UInt8}{R:Value→Heap→Prop}(ho:Own lo 1 H v b X)(hlo:lo≤H.length)(hbig:X.length≤4294967000)
  (k:∀v' H',Own lo 1 H' v' (H.length+1) (X++[encU c])→Keep b H H'→H'.length=H.length+2→R v' H'):wpH cp lo (.app 1 z) [v,.slice (some ⟨H.length,0,none⟩) 1 1] (H++[some [encU c]]) R:=by
 refine wpH_app (c:=[encU c]) (ho.mono (Ext.app _ _)) (by simp;omega) (by omega) (by omega) (by omega) get_app0 (by simp) rfl rfl ?_
 intro v' H' h1 h2 h3
 simp only[List.length_append,List.length_cons,List.length_nil]at h1 h3
 exact k v' H' h1 (keepTrans (Ext.keep (Ext.app _ _)) (.inl rfl) h2) (by omega)
theorem exZNf{S:List Value}{F:(Nat→Value)→List Value}(h:S=F (fun k=>S.getD k undef)):∃z,S=F z:=⟨_,h⟩
theorem apvP{b:Nat}{v w:Value}{cells:List Value}{l:List UInt8}(hx:Ext G H)(hG:G.length≤lo)(hg:G.get 0=some powC)(hl:SlU G w l)(ho:Own lo 1 H v b cells)(hlo:lo≤H.length)(hbl:b<H.length)(hne:0<l.length)(hlen:l.length≤4096)(hbig:cells.length≤3900000000) :
  Ev cp lo 37 [v,w] H (App lo H b (cells++uL (rowP 2 l l.length))):=by
 obtain⟨bw,ow,spw,capw,xs,rfl,gw,hat,hxl⟩:=hl.els 0 hne
 have gwl:=Heap.get_lt gw
 refine st37 ?_;unfold bd37 cf37;simp only[kB,ctlB]
 repeat' ((first|refine xSNb ?_|refine xONb rfl ?_);(try simp only[ctlB]))
 refine aw_for (fun k S H'=>∃u,Ext G H'∧App lo H b (cells++uL (rowP 2 l k)) u H'∧∃(z:Nat→Value),S=[u,.slice (some ⟨bw,ow,spw⟩) l.length capw,z 2,z 3,z 4,.slice (some ⟨bw,ow,spw⟩) l.length capw,.int .i64 (l.length:Nat),.int .i64 (k:Nat),z 8,z 9,z 10,z 11,z 12,z 13,z 14]) l.length ?_ ?_ ?_ ?_
 ·exact⟨v,hx,⟨b,.inl rfl,hbl,by rw[rowP_0];simpa[uL]using ho,Ext.keep (Ext.refl H)⟩,exZNf rfl⟩
 ·rintro k S H' hk ⟨u,_,_,z,rfl⟩
  exact⟨_,xENb,by simp⟩
 ·rintro k S H1 hk ⟨u,hx1,⟨b1,hb1,hbl1,ho1,hk1⟩,z,rfl⟩
  have hatk:=hat k hk
  have gw1:=hx1.get gw
  have hg1:=hx1.get hg
  generalize hc:l.getD k 0=c at hatk
  have hcl:=c.toNat_lt
  have hmod:(k:Int).tmod 17=((k%17:Nat):Int):=by rw[Int.tmod_eq_emod_of_nonneg (by omega)];rfl
  have hrl:=rowP_len 2 l k
  have hdl:=decL_4 (n:=c.toNat) (by omega)
  have hlo1:lo≤H1.length:=by have:=hk1.len;omega
  (try simp only[ctlB])
  repeat' ((first|refine xSNb ?_|refine xONb rfl ?_);(try simp only[ctlB]))
  refine xHNb ?_
  refine wpH_call0 (saiP (k:=c.toNat) (by omega) (.inl ho1) hlo1 hg1 hbl1 (by rw[List.length_append,uL_len];omega)) ?_
  rintro v2 H2 ⟨b2,hb2,hbl2,ho2,hk2⟩
  have hl2:=hk2.len
  have hx2:Ext G H2:=hk2.ext hx1 (by have:=own_lo ho1;omega)
  (try simp only[ctlB])
  repeat' ((first|refine xSNb ?_|refine xONb rfl ?_);(try simp only[ctlB]))
  refine xCNb (fun h=>?_) (fun h=>?_)
  ·have he:k+1=l.length∨(k+1)%17=0:=by simp at h;omega
   clear h
   (try simp only[ctlB])
   repeat' ((first|refine xSNb ?_|refine xONb rfl ?_);(try simp only[ctlB]))
   refine xHNb ?_
   refine wpH_app1 (c:=10) ho2 (by omega) (by rw[List.length_append,List.length_append,uL_len,uL_len];omega) ?_
   rintro v3 H3 ho3 hk3 hl3
   (try simp only[ctlB])
   repeat' ((first|refine xSNb ?_|refine xONb rfl ?_);(try simp only[ctlB]))
   refine⟨_,hk3.ext hx2 (by have:=own_lo ho2;omega),⟨H2.length+1,.inr (by have:=hk1.len;omega),by omega,?_,keepTrans hk1 hb1 (keepTrans hk2 hb2 hk3)⟩,exZNf (by first|rfl|(simp only[Int.natCast_add,Int.natCast_one];rfl)|simp only[Int.natCast_add,Int.natCast_one])⟩
   rw[rowP_succ hk,hc,show(if k+1=l.length then[10] else sepB 2 (k+1))=[10] by split;rfl;simp[sepB];omega,uL_app,uL_app,←List.append_assoc,←List.append_assoc]
   exact ho3
  ·have he:k+1≠l.length∧(k+1)%17≠0:=by simp at h;omega
   clear h
   (try simp only[ctlB])
   repeat' ((first|refine xSNb ?_|refine xONb rfl ?_);(try simp only[ctlB]))
   refine xHNb ?_
   refine wpH_app1 (c:=32) ho2 (by omega) (by rw[List.length_append,List.length_append,uL_len,uL_len];omega) ?_
   rintro v3 H3 ho3 hk3 hl3
   (try simp only[ctlB])
   repeat' ((first|refine xSNb ?_|refine xONb rfl ?_);(try simp only[ctlB]))
   refine⟨_,hk3.ext hx2 (by have:=own_lo ho2;omega),⟨H2.length+1,.inr (by have:=hk1.len;omega),by omega,?_,keepTrans hk1 hb1 (keepTrans hk2 hb2 hk3)⟩,exZNf (by first|rfl|(simp only[Int.natCast_add,Int.natCast_one];rfl)|simp only[Int.natCast_add,Int.natCast_one])⟩
   rw[rowP_succ hk,hc,show(if k+1=l.length then[10] else sepB 2 (k+1))=[32] by rw[if_neg he.1];unfold sepB;rw[if_neg (by omega),if_neg (by omega),if_neg he.2],uL_app,uL_app,←List.append_assoc,←List.append_assoc]
   exact ho3
 ·rintro S H' ⟨u,_,hA,z,rfl⟩
  (try simp only[ctlB])
  repeat' ((first|refine xSNb ?_|refine xONb rfl ?_);(try simp only[ctlB]))
  refine xRNb ?_
  exact hA
end
end Go.Proofs.YtpbiaeiebhgmgaaDoor
namespace Go.Proofs.YtpbiaeiebhgmgaaDoor
open Go.Abs
set_option linter.unusedSimpArgs false
set_option linter.unusedVariables false
set_option maxRecDepth 20000
def bt(l:List UInt8)(k i:Nat):Nat:=if i<k∧l.getD i 1=0 then 1 else 0
def byK(l:List UInt8)(k j:Nat):Nat:=128*bt l k (8*j)+64*bt l k (8*j+1)+32*bt l k (8*j+2)+16*bt l k (8*j+3)+8*bt l k (8*j+4)+4*bt l k (8*j+5)+2*bt l k (8*j+6)+bt l k (8*j+7)
def pkI(l:List UInt8)(k j:Nat):List UInt8:=(List.range j).map fun i=>UInt8.ofNat (byK l k i)
theorem bt_le(l:List UInt8)(k i:Nat):bt l k i≤1:=by unfold bt;split<;>omega
theorem bt_hi{l:List UInt8}{k i:Nat}(h:k≤i):bt l k i=0:=by unfold bt;rw[if_neg (by omega)]
theorem bt_lo{l:List UInt8}{k i:Nat}(h:i<k):bt l (k+1) i=bt l k i:=by
 unfold bt
 simp only[show(i<k+1)=(i<k) by simp;omega]
theorem bt_at{l:List UInt8}{k:Nat}:bt l (k+1) k=if l.getD k 1=0 then 1 else 0:=by
 unfold bt;simp
theorem byK_lt(l:List UInt8)(k j:Nat):byK l k j<256:=by
 have h:=bt_le l k
 have a:=h (8*j);have b:=h (8*j+1);have c:=h (8*j+2);have d:=h (8*j+3)
 have e:=h (8*j+4);have f:=h (8*j+5);have g:=h (8*j+6);have i:=h (8*j+7)
 unfold byK;omega
theorem byK_next{l:List UInt8}{k j:Nat}(h:8*j+8≤k):byK l (k+1) j=byK l k j:=by
 unfold byK
 rw[bt_lo (by omega),bt_lo (by omega),bt_lo (by omega),bt_lo (by omega),bt_lo (by omega),bt_lo (by omega),bt_lo (by omega),bt_lo (by omega)]
theorem pkI_next{l:List UInt8}{k j:Nat}(h:8*j≤k):pkI l (k+1) j=pkI l k j:=by
 unfold pkI
 refine List.map_congr_left fun i hi=>?_
 rw[byK_next (by have:=List.mem_range.1 hi;omega)]
theorem pkI_succ(l:List UInt8)(k j:Nat):pkI l k (j+1)=pkI l k j++[UInt8.ofNat (byK l k j)]:=by
 unfold pkI;rw[List.range_succ,List.map_append];rfl
theorem pkI_len(l:List UInt8)(k j:Nat):(pkI l k j).length=j:=by simp[pkI]
theorem or_bit:∀t,t<8→∀x,x<256→x%(2^(8-t))=0→(BitVec.ofInt 8 (x:Nat) ||| BitVec.ofInt 8 (128/2^t:Nat)).toNat=x+128/2^t:=by decide +kernel
theorem shr8:∀t,t<8→(128:Int).fdiv (2^min t IntKind.u8.bits)=((128/2^t:Nat):Int):=by decide +kernel
theorem byK_set{l:List UInt8}{k j t:Nat}(ht:t<8)(hk:k=8*j+t):byK l (k+1) j=byK l k j+(128/2^t)*bt l (k+1) k∧byK l k j%2^(8-t)=0:=by
 have hi:∀i,k≤i→bt l k i=0:=fun i h=>bt_hi h
 have hh:∀i,k+1≤i→bt l (k+1) i=0:=fun i h=>bt_hi h
 have hl:∀i,i<k→bt l (k+1) i=bt l k i:=fun i h=>bt_lo h
 subst hk
 unfold byK
 match t,ht with
 | 0,_=>
  have hi':∀i,8*j≤i→bt l (8*j) i=0:=fun i h=>hi i h
  have hh':∀i,8*j+1≤i→bt l (8*j+1) i=0:=fun i h=>hh i h
  simp[hi',hh']
 | 1,_=>simp[hi,hh,hl]<;>omega
 | 2,_=>simp[hi,hh,hl]<;>omega
 | 3,_=>simp[hi,hh,hl]<;>omega
 | 4,_=>simp[hi,hh,hl]<;>omega
 | 5,_=>simp[hi,hh,hl]<;>omega
 | 6,_=>simp[hi,hh,hl]<;>omega
 | 7,_=>simp[hi,hh,hl]<;>omega
section
variable {lo:Nat}{G H:Heap}
theorem own_real{lo:Nat}{H:Heap}{v:Value}{b:Nat}{X:List Value}(h:Own lo 1 H v b X)(hl:0<X.length):v=.slice (some ⟨b,0,some 1⟩) X.length X.length∧H.get b=some X:=by
 obtain⟨_,⟨_,h⟩|⟨n,_,h1,rfl,h2⟩⟩:=h
 ·subst h;simp at hl
 ·rw[Nat.mul_one]at h1
  subst h1;exact⟨rfl,h2⟩
theorem apbP{b:Nat}{v w:Value}{cells:List Value}{l:List UInt8}(hx:Ext G H)(hG:G.length≤lo)(hl:SlU G w l)(ho:Own lo 1 H v b cells)(hlo:lo≤H.length)(hbl:b<H.length)(hne:0<l.length)(hlen:l.length≤4096)(hbig:cells.length≤3900000000) :
  Ev cp lo 38 [v,w] H (App lo H b (cells++uL (pkI l l.length ((l.length+7)/8)))):=by
 obtain⟨bw,ow,spw,capw,xs,rfl,gw,hat,hxl⟩:=hl.els 1 hne
 have gwl:=Heap.get_lt gw
 refine st38 ?_;unfold bd38 cf38;simp only[kB,ctlB]
 repeat' ((first|refine xSNb ?_|refine xONb rfl ?_);(try simp only[ctlB]))
 refine aw_for (fun k S H'=>∃u,Ext G H'∧App lo H b (cells++uL (pkI l k ((k+7)/8))) u H'∧∃(z:Nat→Value),S=[u,.slice (some ⟨bw,ow,spw⟩) l.length capw,z 2,z 3,z 4,.slice (some ⟨bw,ow,spw⟩) l.length capw,.int .i64 (l.length:Nat),.int .i64 (k:Nat),z 8,z 9,z 10]) l.length ?_ ?_ ?_ ?_
 ·exact⟨v,hx,⟨b,.inl rfl,hbl,by simpa[pkI,uL]using ho,Ext.keep (Ext.refl H)⟩,exZNf rfl⟩
 ·rintro k S H' hk ⟨u,_,_,z,rfl⟩
  exact⟨_,xENb,by simp⟩
 ·rintro k S H1 hk ⟨u,hx1,⟨b1,hb1,hbl1,ho1,hk1⟩,z,rfl⟩
  have hatk:=hat k hk
  have gw1:=hx1.get gw
  generalize hc:l.getD k 1=c at hatk
  have hcl:=c.toNat_lt
  have hmod:(k:Int).tmod 8=((k%8:Nat):Int):=by rw[Int.tmod_eq_emod_of_nonneg (by omega)];rfl
  have hlo1:lo≤H1.length:=by have:=hk1.len;omega
  obtain⟨j,t,hjt1,hjt2,ht⟩:∃j t,k≤8*j+t∧8*j+t≤k∧t<8:=⟨k/8,k%8,by omega,by omega,by omega⟩
  have hc:False∨l.getD k 1=c:=.inr hc
  (try simp only[ctlB])
  repeat' ((first|refine xSNb ?_|refine xONb rfl ?_);(try simp only[ctlB]))
  refine aw_midX (fun S' H'=>∃u,Ext G H'∧App lo H b (cells++uL (pkI l k j++[UInt8.ofNat (byK l k j)])) u H'∧∃(z:Nat→Value),S'=[u,.slice (some ⟨bw,ow,spw⟩) l.length capw,z 2,.int .i64 (k:Nat),encU c,.slice (some ⟨bw,ow,spw⟩) l.length capw,.int .i64 (l.length:Nat),.int .i64 (k:Nat),z 8,z 9,z 10]) ?_ ?_
  ·refine xCNb (fun h=>?_) (fun h=>?_)
   ·have he:t=0:=by simp at h;omega
    clear h
    have hkj:(k+7)/8=j:=by omega
    rw[hkj]at ho1
    (try simp only[ctlB])
    repeat' ((first|refine xSNb ?_|refine xONb rfl ?_);(try simp only[ctlB]))
    refine xHNb ?_
    refine wpH_app1 (c:=0) ho1 (by omega) (by rw[List.length_append,uL_len,pkI_len];omega) ?_
    rintro v3 H3 ho3 hk3 hl3
    (try simp only[ctlB])
    repeat' ((first|refine xSNb ?_|refine xONb rfl ?_);(try simp only[ctlB]))
    refine⟨_,hk3.ext hx1 (by have:=own_lo ho1;omega),⟨H1.length+1,.inr (by have:=hk1.len;omega),by omega,?_,keepTrans hk1 hb1 hk3⟩,exZNf rfl⟩
    rw[uL_app,←List.append_assoc]
    have hz:byK l k j=0:=by
     unfold byK
     rw[bt_hi (by omega),bt_hi (by omega),bt_hi (by omega),bt_hi (by omega),bt_hi (by omega),bt_hi (by omega),bt_hi (by omega),bt_hi (by omega)]
    rw[hz]
    exact ho3
   ·have he:t≠0:=by simp at h;omega
    clear h
    have hkj:(k+7)/8=j+1:=by omega
    rw[hkj,pkI_succ]at ho1
    (try simp only[ctlB])
    repeat' ((first|refine xSNb ?_|refine xONb rfl ?_);(try simp only[ctlB]))
    exact⟨_,hx1,⟨b1,hb1,hbl1,ho1,hk1⟩,exZNf rfl⟩
  ·rintro S' H2 ⟨u2,hx2,⟨b2,hb2,hbl2,ho2,hk2⟩,z,rfl⟩
   rw[uL_app,←List.append_assoc]at ho2
   obtain⟨hset,hdiv⟩:=byK_set (l:=l) (k:=k) (j:=j) (t:=t) ht (by omega)
   rw[bt_at,hc.resolve_left id]at hset
   have hxl2:=byK_lt l k j
   have hxn:=byK_lt l (k+1) j
   have hfin:∀y,byK l (k+1) j=y→uL (pkI l (k+1) ((k+1+7)/8))=uL (pkI l k j)++[Value.int .u8 (y:Nat)]:=by
    rintro y rfl
    rw[show(k+1+7)/8=j+1 by omega,pkI_succ,pkI_next (by omega),uL_app]
    congr 1
    show[encU (UInt8.ofNat (byK l (k+1) j))]=_
    unfold encU
    rw[UInt8.toNat_ofNat_of_lt' hxn]
   have ho2':Own lo 1 H2 u2 b2 (cells++uL (pkI l k j)++[Value.int .u8 (byK l k j:Nat)]):=by
    have e:uL [UInt8.ofNat (byK l k j)]=[Value.int .u8 (byK l k j:Nat)]:=by
     show[encU (UInt8.ofNat (byK l k j))]=_
     unfold encU
     rw[UInt8.toNat_ofNat_of_lt' hxl2]
    rw[e]at ho2
    exact ho2
   clear ho2
   have hA:False∨∃A,cells++uL (pkI l k j)=A:=.inr ⟨_,rfl⟩
   obtain⟨A,hA⟩:=hA.resolve_left id
   have hAl:A.length≤4000000000:=by rw[←hA,List.length_append,uL_len,pkI_len];omega
   rw[hA]at ho2'
   replace hA:False∨cells++uL (pkI l k j)=A:=.inr hA
   obtain⟨rfl,hg2⟩:=own_real ho2' (by rw[List.length_append,List.length_singleton];omega)
   rw[show(A++[Value.int .u8 (byK l k j:Nat)]).length=A.length+1 by simp]at ho2'
   (try simp only[ctlB])
   repeat' ((first|refine xSNb ?_|refine xONb rfl ?_);(try simp only[ctlB]))
   refine xCNb (fun h=>?_) (fun h=>?_)
   ·have hc0:c=0:=by
     have:c.toNat=0:=by simp at h;exact h
     exact UInt8.toNat_inj.1 (by rw[this];rfl)
    rw[if_pos hc0,Nat.mul_one]at hset
    clear h
    replace hset:False∨_:=.inr hset
    generalize byK l k j=x at hset hdiv hxl2 ho2' hg2
    have hor:=or_bit t ht x hxl2 hdiv
    replace hor:IntKind.u8.wrap (BitVec.ofInt IntKind.u8.bits (x:Nat) ||| BitVec.ofInt IntKind.u8.bits ((128:Int).fdiv (2^min (k%8) IntKind.u8.bits))).toNat=((x+128/2^t:Nat):Int):=by
     rw[show k%8=t by omega,shr8 t ht]
     show IntKind.u8.wrap (BitVec.ofInt 8 (x:Nat) ||| BitVec.ofInt 8 (128/2^t:Nat)).toNat=_
     rw[hor,wrap_u8 (by omega) (by have:=hset.resolve_left id;omega)]
    have e0:(((A.length+1:Nat):Int)-1).toNat=A.length:=by omega
    have hat2:(A++[Value.int .u8 (x:Nat)])[A.length]?=some (Value.int .u8 (x:Nat)):=by simp
    have hb2l:lo≤b2:=own_lo ho2'
    (try simp only[ctlB])
    repeat' ((first|refine xSNb ?_|refine xONb rfl ?_);(try simp only[ctlB]))
    rw[show(A++[Value.int .u8 (x:Nat)]).set A.length (Value.int .u8 ((x+128/2^t:Nat):Int))=A++[Value.int .u8 ((x+128/2^t:Nat):Int)] by simp]
    refine⟨_,⟨by rw[List.length_set];exact hx2.1,fun i hi=>by rw[get_set_ne (by omega)];exact hx2.2 i hi⟩,⟨b2,hb2,by rw[List.length_set];exact hbl2,?_,?_⟩,exZNf (by first|rfl|(simp only[Int.natCast_add,Int.natCast_one];rfl)|simp only[Int.natCast_add,Int.natCast_one])⟩
    ·rw[hfin _ (hset.resolve_left id),←List.append_assoc,hA.resolve_left id]
     exact⟨hb2l,.inr ⟨_,by omega,by simp,rfl,get_set_self hbl2⟩⟩
    ·refine keepTrans hk2 hb2 ⟨by simp,fun i hi hne=>get_set_ne (fun e=>hne e.symm)⟩
   ·have hc0:c≠0:=by rintro rfl;simp at h
    rw[if_neg hc0,Nat.mul_zero,Nat.add_zero]at hset
    clear h
    replace hset:False∨_:=.inr hset
    (try simp only[ctlB])
    repeat' ((first|refine xSNb ?_|refine xONb rfl ?_);(try simp only[ctlB]))
    refine⟨_,hx2,⟨b2,hb2,hbl2,?_,hk2⟩,exZNf (by first|rfl|(simp only[Int.natCast_add,Int.natCast_one];rfl)|simp only[Int.natCast_add,Int.natCast_one])⟩
    rw[hfin _ (hset.resolve_left id),←List.append_assoc,hA.resolve_left id]
    exact ho2'
 ·rintro S H' ⟨u,_,hA,z,rfl⟩
  (try simp only[ctlB])
  repeat' ((first|refine xSNb ?_|refine xONb rfl ?_);(try simp only[ctlB]))
  refine xRNb ?_
  exact hA
end
end Go.Proofs.YtpbiaeiebhgmgaaDoor
namespace Go.Proofs.YtpbiaeiebhgmgaaDoor
open Go.Abs
set_option linter.unusedSimpArgs false
set_option linter.unusedVariables false
set_option maxRecDepth 20000
def rowW(f:Nat)(l:List UInt8):List UInt8:=if f≤2 then rowP f l l.length else if f=5 then l else pkI l l.length ((l.length+7)/8)
section
variable {lo:Nat}{G H:Heap}
theorem own_appU{z:List Value}{v w:Value}{b:Nat}{X:List Value}{l:List UInt8}{R:Value→Heap→Prop}(ho:Own lo 1 H v b X)(hlo:lo≤H.length)(hl:SlU H w l)(hne:0<l.length)(hbig:X.length+l.length≤4294967296)
  (k:∀v' H',Own lo 1 H' v' H.length (X++uL l)→Keep b H H'→H'.length=H.length+1→R v' H'):wpH cp lo (.app 1 z) [v,w] H R:=by
 rcases hl with ⟨rfl,rfl⟩|⟨b',o,sp,cap,xs,rfl,h2,h3,h4,h5⟩
 ·simp at hne
 ·exact wpH_app (c:=uL l) ho hlo (by omega) hne hbig h2 (by omega) (by rw[Nat.mul_one];exact h3) (uL_one l) k
theorem plP{b:Nat}{v w:Value}{cells:List Value}{l:List UInt8}(hx:Ext G H)(hG:G.length≤lo)(hl:SlU G w l)(ho:Own lo 1 H v b cells)(hlo:lo≤H.length)(hbl:b<H.length)(hne:0<l.length)(hlen:l.length≤4096)(hbig:cells.length≤3900000000) :
  Ev cp lo 22 [v,w,.agg #[.int .i64 1,.bool false,.bool false]] H (App lo H b (cells++uL (rowP 1 l l.length))):=by
 obtain⟨bw,ow,spw,capw,xs,rfl,gw,hat,hxl⟩:=hl.els 0 hne
 have gwl:=Heap.get_lt gw
 refine st22 ?_;unfold bd22 cf22;simp only[kB,ctlB]
 repeat' ((first|refine xSNb ?_|refine xONb rfl ?_);(try simp only[ctlB]))
 refine xCNb (fun h=>?_) (fun h=>?_)
 ·simp at h
 (try simp only[ctlB])
 refine xCNb (fun h=>?_) (fun h=>?_)
 ·simp at h
 (try simp only[ctlB])
 refine xCNb (fun h=>?_) (fun h=>?_)
 ·simp at h
 (try simp only[ctlB])
 repeat' ((first|refine xSNb ?_|refine xONb rfl ?_);(try simp only[ctlB]))
 have hxb:Ext H (H++[some [Value.int IntKind.i64 1,Value.bool false,Value.bool false]]):=Ext.app _ _
 have hlb:H.length<(H++[some [Value.int IntKind.i64 1,Value.bool false,Value.bool false]]).length:=by simp
 generalize H++[some [Value.int IntKind.i64 1,Value.bool false,Value.bool false]]=Hb at hxb hlb
 refine aw_for (fun k S H'=>∃u,Ext G H'∧App lo H b (cells++uL (rowP 1 l k)) u H'∧∃(z:Nat→Value),S=[u,.slice (some ⟨bw,ow,spw⟩) l.length capw,z 2,z 3,z 4,z 5,z 6,z 7,z 8,z 9,.slice (some ⟨bw,ow,spw⟩) l.length capw,.int .i64 (l.length:Nat),.int .i64 (k:Nat),z 13,z 14,z 15,z 16,z 17,z 18,z 19,z 20,z 21]) l.length ?_ ?_ ?_ ?_
 ·exact⟨v,hx.trans hxb,⟨b,.inl rfl,by omega,by rw[rowP_0];simpa[uL]using ho.mono hxb,Ext.keep hxb⟩,exZNf rfl⟩
 ·rintro k S H' hk ⟨u,_,_,z,rfl⟩
  exact⟨_,xENb,by simp⟩
 ·rintro k S H1 hk ⟨u,hx1,⟨b1,hb1,hbl1,ho1,hk1⟩,z,rfl⟩
  have hatk:=hat k hk
  have gw1:=hx1.get gw
  generalize hc:l.getD k 0=c at hatk
  have hcl:=c.toNat_lt
  have hmod:(k:Int).tmod 70=((k%70:Nat):Int):=by rw[Int.tmod_eq_emod_of_nonneg (by omega)];rfl
  have hrl:=rowP_len 1 l k
  have hlo1:lo≤H1.length:=by have:=hk1.len;omega
  (try simp only[ctlB])
  repeat' ((first|refine xSNb ?_|refine xONb rfl ?_);(try simp only[ctlB]))
  refine aw_midX (fun S' H'=>∃u,Ext G H'∧App lo H b (cells++uL (rowP 1 l k)++uL (itemB 1 c)) u H'∧∃(z:Nat→Value),S'=[u,.slice (some ⟨bw,ow,spw⟩) l.length capw,z 2,z 3,z 4,.int .i64 (k:Nat),z 6,z 7,z 8,z 9,.slice (some ⟨bw,ow,spw⟩) l.length capw,.int .i64 (l.length:Nat),.int .i64 (k:Nat),z 13,z 14,z 15,z 16,z 17,z 18,z 19,z 20,z 21]) ?_ ?_
  ·refine xCNb (fun h=>?_) (fun h=>?_)
   ·have hc0:c=0:=by
     have:c.toNat=0:=by simp at h;exact h
     exact UInt8.toNat_inj.1 (by rw[this];rfl)
    clear h
    (try simp only[ctlB])
    repeat' ((first|refine xSNb ?_|refine xONb rfl ?_);(try simp only[ctlB]))
    refine xHNb ?_
    refine wpH_app1 (c:=49) ho1 (by omega) (by rw[List.length_append,uL_len];omega) ?_
    rintro v3 H3 ho3 hk3 hl3
    (try simp only[ctlB])
    repeat' ((first|refine xSNb ?_|refine xONb rfl ?_);(try simp only[ctlB]))
    refine⟨_,hk3.ext hx1 (by have:=own_lo ho1;omega),⟨H1.length+1,.inr (by have:=hk1.len;omega),by omega,?_,keepTrans hk1 hb1 hk3⟩,exZNf rfl⟩
    rw[show itemB 1 c=[49] by unfold itemB;rw[if_neg (by decide),if_pos hc0]]
    exact ho3
   ·have hc0:c≠0:=by rintro rfl;simp at h
    clear h
    (try simp only[ctlB])
    repeat' ((first|refine xSNb ?_|refine xONb rfl ?_);(try simp only[ctlB]))
    refine xHNb ?_
    refine wpH_app1 (c:=48) ho1 (by omega) (by rw[List.length_append,uL_len];omega) ?_
    rintro v3 H3 ho3 hk3 hl3
    (try simp only[ctlB])
    repeat' ((first|refine xSNb ?_|refine xONb rfl ?_);(try simp only[ctlB]))
    refine⟨_,hk3.ext hx1 (by have:=own_lo ho1;omega),⟨H1.length+1,.inr (by have:=hk1.len;omega),by omega,?_,keepTrans hk1 hb1 hk3⟩,exZNf rfl⟩
    rw[show itemB 1 c=[48] by unfold itemB;rw[if_neg (by decide),if_neg hc0]]
    exact ho3
  ·rintro S' H2 ⟨u2,hx2,⟨b2,hb2,hbl2,ho2,hk2⟩,z,rfl⟩
   have hlo2:lo≤H2.length:=by have:=hk2.len;omega
   have hil:=item_len 1 c
   have hl2:=hk2.len
   (try simp only[ctlB])
   repeat' ((first|refine xSNb ?_|refine xONb rfl ?_);(try simp only[ctlB]))
   refine xCNb (fun h=>?_) (fun h=>?_)
   ·have he:k+1=l.length∨(k+1)%70=0:=by simp at h;omega
    clear h
    (try simp only[ctlB])
    repeat' ((first|refine xSNb ?_|refine xONb rfl ?_);(try simp only[ctlB]))
    refine xHNb ?_
    refine wpH_app1 (c:=10) ho2 (by omega) (by rw[List.length_append,List.length_append,uL_len,uL_len];omega) ?_
    rintro v3 H3 ho3 hk3 hl3
    (try simp only[ctlB])
    repeat' ((first|refine xSNb ?_|refine xONb rfl ?_);(try simp only[ctlB]))
    refine⟨_,hk3.ext hx2 (by have:=own_lo ho2;omega),⟨H2.length+1,.inr (by omega),by omega,?_,keepTrans hk2 hb2 hk3⟩,exZNf (by first|rfl|(simp only[Int.natCast_add,Int.natCast_one];rfl)|simp only[Int.natCast_add,Int.natCast_one])⟩
    rw[rowP_succ hk,hc,show(if k+1=l.length then[10] else sepB 1 (k+1))=[10] by split;rfl;simp[sepB];omega,uL_app,uL_app,←List.append_assoc,←List.append_assoc]
    exact ho3
   ·have he:k+1≠l.length∧(k+1)%70≠0:=by simp at h;omega
    clear h
    (try simp only[ctlB])
    repeat' ((first|refine xSNb ?_|refine xONb rfl ?_);(try simp only[ctlB]))
    refine⟨_,hx2,⟨b2,hb2,hbl2,?_,hk2⟩,exZNf (by first|rfl|(simp only[Int.natCast_add,Int.natCast_one];rfl)|simp only[Int.natCast_add,Int.natCast_one])⟩
    rw[rowP_succ hk,hc,show(if k+1=l.length then[10] else sepB 1 (k+1))=[] by rw[if_neg he.1];unfold sepB;rw[if_neg (by omega),if_pos rfl,if_neg he.2],List.append_nil,uL_app,←List.append_assoc]
    exact ho2
 ·rintro S H' ⟨u,_,hA,z,rfl⟩
  (try simp only[ctlB])
  repeat' ((first|refine xSNb ?_|refine xONb rfl ?_);(try simp only[ctlB]))
  refine xRNb ?_
  exact hA
theorem App.ofExt{b:Nat}{H Hb H':Heap}{c:List Value}{v:Value}(hx:Ext H Hb)(hb:b<H.length)(h:App lo Hb b c v H'):App lo H b c v H':=by
 obtain⟨b',h1,h2,h3,h4⟩:=h
 exact⟨b',by have:=hx.1;omega,h2,h3,keepTrans (Ext.keep hx) (.inl rfl) h4⟩
def kindF(f:Nat):Value:=.agg #[.int .i64 (f:Nat),.bool (f==2 || f==5),.bool (f==4 || f==5)]
theorem aprP{f b:Nat}{v w:Value}{cells:List Value}{l:List UInt8}(hf:f=1∨f=2∨f=4∨f=5)(hx:Ext G H)(hG:G.length≤lo)(hg:G.get 0=some powC)(hl:SlU G w l)(ho:Own lo 1 H v b cells)(hlo:lo≤H.length)(hbl:b<H.length)(hne:0<l.length)(hlen:l.length≤4096)(hbig:cells.length≤3900000000) :
  Ev cp lo 22 [v,w,kindF f] H (App lo H b (cells++uL (rowW f l))):=by
 rcases hf with rfl|rfl|rfl|rfl
 ·exact plP hx hG hl ho hlo hbl hne hlen hbig
 ·show Ev cp lo 22 [v,w,.agg #[.int .i64 2,.bool true,.bool false]] H _
  refine st22 ?_;unfold bd22 cf22;simp only[kB,ctlB]
  repeat' ((first|refine xSNb ?_|refine xONb rfl ?_);(try simp only[ctlB]))
  refine xCNb (fun h=>?_) (fun h=>?_)
  ·simp at h
  (try simp only[ctlB])
  refine xCNb (fun h=>?_) (fun h=>?_)
  ·(try simp only[ctlB])
   refine xHNb ?_
   refine wpH_call0 (apvP (hx.trans (Ext.app _ _)) hG hg hl (ho.mono (Ext.app _ _)) (by simp;omega) (by simp;omega) hne hlen hbig) ?_
   intro v1 H1 hA
   (try simp only[ctlB])
   repeat' ((first|refine xSNb ?_|refine xONb rfl ?_);(try simp only[ctlB]))
   refine xRNb ?_
   exact hA.ofExt (Ext.app _ _) hbl
  ·simp at h
 ·show Ev cp lo 22 [v,w,.agg #[.int .i64 4,.bool false,.bool true]] H _
  refine st22 ?_;unfold bd22 cf22;simp only[kB,ctlB]
  repeat' ((first|refine xSNb ?_|refine xONb rfl ?_);(try simp only[ctlB]))
  refine xCNb (fun h=>?_) (fun h=>?_)
  ·simp at h
  (try simp only[ctlB])
  refine xCNb (fun h=>?_) (fun h=>?_)
  ·simp at h
  (try simp only[ctlB])
  refine xCNb (fun h=>?_) (fun h=>?_)
  ·(try simp only[ctlB])
   refine xHNb ?_
   refine wpH_call0 (apbP (hx.trans (Ext.app _ _)) hG hl (ho.mono (Ext.app _ _)) (by simp;omega) (by simp;omega) hne hlen hbig) ?_
   intro v1 H1 hA
   (try simp only[ctlB])
   repeat' ((first|refine xSNb ?_|refine xONb rfl ?_);(try simp only[ctlB]))
   refine xRNb ?_
   exact hA.ofExt (Ext.app _ _) hbl
  ·simp at h
 ·show Ev cp lo 22 [v,w,.agg #[.int .i64 5,.bool true,.bool true]] H _
  refine st22 ?_;unfold bd22 cf22;simp only[kB,ctlB]
  repeat' ((first|refine xSNb ?_|refine xONb rfl ?_);(try simp only[ctlB]))
  refine xCNb (fun h=>?_) (fun h=>?_)
  ·(try simp only[ctlB])
   refine xHNb ?_
   refine own_appU (ho.mono (Ext.app _ _)) (by simp;omega) (hl.mono (hx.trans (Ext.app _ _))) hne (by omega) ?_
   intro v1 H1 ho1 hk1 hl1
   (try simp only[ctlB])
   repeat' ((first|refine xSNb ?_|refine xONb rfl ?_);(try simp only[ctlB]))
   refine xRNb ?_
   simp only[List.length_append,List.length_singleton]at hl1 ho1
   exact⟨H.length+1,.inr (by omega),by omega,ho1,keepTrans (Ext.keep (Ext.app _ _)) (.inl rfl) hk1⟩
  ·simp at h
end
end Go.Proofs.YtpbiaeiebhgmgaaDoor
