/- Dmtext, the reference: the steps of a node; the best of them. Dmtext, the reference: the nodes of a place. -/
import Derived.Test.YthnflhimcmdnbaaT32
set_option linter.unusedVariables false
set_option linter.unusedSimpArgs false
set_option linter.unusedSectionVars false
namespace Go.Proofs.Ythnflhimcmdnbaa
open Go.Abs
set_option linter.unusedSimpArgs false
set_option linter.unusedVariables false
set_option maxRecDepth 20000
theorem stepsR_len(p:List UInt8)(n:RN):(stepsR p n).length≤2000:=by
 unfold stepsR
 split
 ·unfold startsR
  have:=pairR_len p n.i
  have:=lowR_len p n.i
  have:=highR_len p n.i
  simp[latR,runsR]
  omega
 ·split
  ·have:=unitL_len p n 40
   unfold unitsR;omega
  ·unfold edisR
   split<;>simp
structure CoH (H:Heap)(kb:Nat)(v:Value)(p:List UInt8)(C:List Nat):Prop where
 c:H.get kb=some (uN C)
 pl:SlU H v p
 len:C.length=(p.length+1)*128
 hi:p.length≤4096
 le:∀i,C.getD i 0≤1099511627776
theorem CoH.ext{H H':Heap}{kb:Nat}{v:Value}{p:List UInt8}{C:List Nat}(h:CoH H kb v p C)(e:Ext H H'):CoH H' kb v p C:=
 ⟨e.get h.c,h.pl.mono e,h.len,h.hi,h.le⟩
abbrev coV(kb:Nat)(p:List UInt8):Value:=.slice (some ⟨kb,0,none⟩) (p.length+1) (p.length+1)
def totR(C:List Nat)(x:RS):Nat:=x.c+C.getD (x.to.i*128+numR x.to) 0
def minR(C:List Nat)(b:Nat)(x:RS):Nat:=if totR C x<b then totR C x else b
def base0(p:List UInt8)(n:RN):Nat:=if n.m=0∧n.i=p.length then 0 else 1099511627776
def bestR(p:List UInt8)(n:RN)(C:List Nat):Nat:=(stepsR p n).foldl (minR C) (base0 p n)
section
variable {lo:Nat}{H:Heap}{v:Value}{p:List UInt8}
theorem stepsP{n:RN}(hv:SlU H v p)(hn:n.ok p.length)(hl:p.length≤4096)(hlo:lo≤H.length):Ev cp lo 31 [v,rnV n] H (fun r H'=>Ext H H'∧∃b,H.length≤b∧OwnG lo 9 H' r b (cat rsC (stepsR p n))):=by
 obtain⟨ad,c,ev⟩:=hv.len
 rw[ev]at hv ⊢
 clear ev
 have h1:=hn.i
 have h2:=hn.m
 obtain⟨h3,h4,h5⟩:=hn.ph
 unfold stepsR
 refine st31 ?_;unfold bd31 cf31;simp only[kB,ctlB]
 repeat' ((first|refine xSDg ?_|refine xODg rfl ?_);(try simp only[ctlB]))
 have hxb:Ext H (H++[some (rnC n)]):=Ext.app _ _
 have hgb:(H++[some (rnC n)]).get H.length=some [encN n.i,encN n.m,encN n.ph,encN n.s,.bool n.u]:=get_app0
 change wpS cp lo _ _ _ (H++[some (rnC n)])
 generalize H++[some (rnC n)]=Hb at hxb hgb
 have hlb:=hxb.1
 by_cases hm0:n.m=0
 ·have hd:decide ((n.m:Int)=0)=true:=decide_eq_true (by omega)
  rw[if_pos hm0]
  replace hm0:n.m≤0:=by omega
  refine xCDg (fun h=>?_) (fun h=>?_)
  ·clear h hd
   (try simp only[ctlB])
   refine xHDg ?_
   refine wpH_call0 (startsP (hv.mono hxb) h1 hl (by omega)) ?_
   rintro r H1 ⟨hx,b,hb,ho⟩
   (try simp only[ctlB])
   repeat' ((first|refine xSDg ?_|refine xODg rfl ?_);(try simp only[ctlB]))
   refine xRDg ?_
   exact⟨hxb.trans hx,b,by omega,ho⟩
  ·exfalso;simp at h
 have hd:decide ((n.m:Int)=0)=false:=decide_eq_false (by omega)
 rw[if_neg hm0]
 refine xCDg (fun h=>?_) (fun h=>?_)
 ·exfalso;simp at h
 clear h hd
 (try simp only[ctlB])
 by_cases hm4:n.m≠4
 ·have hd:decide ((n.m:Int)=4)=false:=decide_eq_false (by omega)
  rw[if_pos hm4]
  refine xCDg (fun h=>?_) (fun h=>?_)
  ·clear h hd
   (try simp only[ctlB])
   refine xHDg ?_
   refine wpH_call0 (unitsP (n:=n) (hv.mono hxb) hn (by omega) hl (by omega)) ?_
   rintro r H1 ⟨hx,b,hb,ho⟩
   (try simp only[ctlB])
   repeat' ((first|refine xSDg ?_|refine xODg rfl ?_);(try simp only[ctlB]))
   refine xRDg ?_
   exact⟨hxb.trans hx,b,by omega,ho⟩
  ·exfalso;simp at h;omega
 have hd:decide ((n.m:Int)=4)=true:=decide_eq_true (by omega)
 rw[if_neg hm4]
 refine xCDg (fun h=>?_) (fun h=>?_)
 ·exfalso;simp at h;omega
 clear h hd hm4 hm0
 (try simp only[ctlB])
 repeat' ((first|refine xSDg ?_|refine xODg rfl ?_);(try simp only[ctlB]))
 have hed:False∨ediC n=if n.ph=3 then 0 else 1:=.inr rfl
 have hel:ediC n≤1:=by rw[hed.resolve_left id];split<;>omega
 unfold edisR
 refine aw_midX (fun S' H'=>Hb=H'∧∃(z:Nat→Value),S'=[.slice ad p.length c,z 1,ptr H.length,z 3,encN (ediC n),z 5,z 6,z 7,z 8,z 9,z 10,z 11]) ?_ ?_
 ·generalize ediC n=e at hed ⊢
  by_cases hp3:n.ph=3
  ·have hd:decide ((n.ph:Int)=3)=true:=decide_eq_true (by omega)
   have he:=hed.resolve_left id
   rw[if_pos hp3]at he
   subst he
   replace hp3:n.ph≤3∧3≤n.ph:=by omega
   refine xCDg (fun h=>?_) (fun h=>?_)
   ·clear h hd
    (try simp only[ctlB])
    repeat' ((first|refine xSDg ?_|refine xODg rfl ?_);(try simp only[ctlB]))
    exact⟨by trivial,exZDe rfl⟩
   ·exfalso;simp at h
  ·have hd:decide ((n.ph:Int)=3)=false:=decide_eq_false (by omega)
   have he:=hed.resolve_left id
   rw[if_neg hp3]at he
   subst he
   refine xCDg (fun h=>?_) (fun h=>?_)
   ·exfalso;simp at h
   ·clear h hd
    (try simp only[ctlB])
    exact⟨by trivial,exZDe rfl⟩
 rintro S' Hc ⟨rfl,z,rfl⟩
 clear hed
 generalize ediC n=e at hel ⊢
 (try simp only[ctlB])
 repeat' ((first|refine xSDg ?_|refine xODg rfl ?_);(try simp only[ctlB]))
 change wpS cp lo _ _ _ (Hb++[some (rsC ⟨31,-1,-1,e,asR n.i⟩)])
 have hxc:Ext Hb (Hb++[some (rsC ⟨31,-1,-1,e,asR n.i⟩)]):=Ext.app _ _
 have hgc:(Hb++[some (rsC ⟨31,-1,-1,e,asR n.i⟩)]).get Hb.length=some (rsC ⟨31,-1,-1,e,asR n.i⟩):=get_app0
 generalize Hb++[some (rsC ⟨31,-1,-1,e,asR n.i⟩)]=H1 at hxc hgc
 have ho:OwnG lo 9 H1 (.slice (some ⟨Hb.length,0,none⟩) 1 1) Hb.length (cat rsC [⟨31,-1,-1,e,asR n.i⟩]):=.inr ⟨by omega,1,by omega,rfl,rfl,hgc⟩
 have hg1:=hxc.get hgb
 have hx1:=hxb.trans hxc
 have hl1:=hx1.1
 clear hgc
 by_cases hil:n.i<p.length
 ·have hd:decide ((n.i:Int)<(p.length:Nat))=true:=decide_eq_true (by omega)
  obtain⟨bb,oo,xs,hia,hgx,hxx⟩:=sl_at (hv.mono hx1) hil
  have hby:=(p.getD n.i 0).toNat_lt
  replace hxx:xs[oo]?=some (.int .u8 ((p.getD n.i 0).toNat:Nat)):=hxx
  have hbe:by' p n.i=(p.getD n.i 0).toNat:=rfl
  rw[hbe]
  clear hbe
  generalize (p.getD n.i 0).toNat=y at hxx hby ⊢
  by_cases hc:32≤y∧y≤94
  ·rw[if_pos ⟨hil,hc⟩]
   obtain⟨c1,c2⟩:=hc
   have d1:decide ((y:Int)≥32)=true:=decide_eq_true (by omega)
   have d2:decide ((32:Int)≤(y:Nat))=true:=decide_eq_true (by omega)
   have d3:decide ((y:Int)≤94)=true:=decide_eq_true (by omega)
   have q1:(y:Int).tmod 64=((y%64:Nat):Int):=by rw[Int.tmod_eq_emod_of_nonneg (by omega)];omega
   have q2:((n.ph:Int)+1).tmod 4=(((n.ph+1)%4:Nat):Int):=by rw[Int.tmod_eq_emod_of_nonneg (by omega)];omega
   have r1:y%64≤63:=by omega
   have r2:(n.ph+1)%4≤3:=by omega
   generalize y%64=y6 at q1 r1 ⊢
   generalize (n.ph+1)%4=ph4 at q2 r2 ⊢
   refine xCDg (fun h=>?_) (fun h=>?_)
   ·clear h hd d1 d2 d3
    (try simp only[ctlB])
    repeat' ((first|refine xSDg ?_|refine xODg rfl ?_);(try simp only[ctlB]))
    change wpS cp lo _ _ _ (H1++[some (rsC ⟨y6,-1,-1,e,⟨n.i+1,4,ph4,0,false⟩⟩)])
    refine xHDg ?_
    refine stApp (o:=⟨y6,-1,-1,e,⟨n.i+1,4,ph4,0,false⟩⟩) ho (by omega) (by simp) ?_
    intro w3 H3 hap
    have hx3:=hap.ext hx1 (by omega)
    obtain⟨b3,k1,k2,k3,k4⟩:=hap
    (try simp only[ctlB])
    repeat' ((first|refine xSDg ?_|refine xODg rfl ?_);(try simp only[ctlB]))
    refine xRDg ?_
    exact⟨hx3,b3,by omega,k3⟩
   ·exfalso;first|(simp at h;done)|cases h
  ·rw[if_neg (fun h=>hc h.2),List.append_nil]
   have hcc:(decide ((y:Int)≥32)&&decide ((y:Int)≤94))=false:=by simp only[Bool.and_eq_false_iff,decide_eq_false_iff_not];omega
   refine xCDg (fun h=>?_) (fun h=>?_)
   ·exfalso;first|(rw[hcc]at h;cases h)|(simp at h;omega)|cases h
   ·(try simp only[ctlB])
    repeat' ((first|refine xSDg ?_|refine xODg rfl ?_);(try simp only[ctlB]))
    refine xRDg ?_
    exact⟨hx1,_,by omega,ho⟩
 ·have hd:decide ((n.i:Int)<(p.length:Nat))=false:=decide_eq_false (by omega)
  rw[if_neg (fun h=>hil h.1),List.append_nil]
  refine xCDg (fun h=>?_) (fun h=>?_)
  ·exfalso;first|(simp at h;done)|cases h
  ·(try simp only[ctlB])
   repeat' ((first|refine xSDg ?_|refine xODg rfl ?_);(try simp only[ctlB]))
   refine xRDg ?_
   exact⟨hx1,_,by omega,ho⟩
theorem bestP{n:RN}{kb:Nat}{C:List Nat}(hs:CoH H kb v p C)(hn:n.ok p.length)(hlo:lo≤H.length):Ev cp lo 29 [v,rnV n,coV kb p] H (fun r H'=>Ext H H'∧r=encN (bestR p n C)):=by
 obtain⟨ad,c,ev⟩:=hs.pl.len
 rw[ev]at hs ⊢
 clear ev
 have h1:=hn.i
 have hl:=hs.hi
 refine st29 ?_;unfold bd29 cf29;simp only[kB,ctlB]
 repeat' ((first|refine xSDg ?_|refine xODg rfl ?_);(try simp only[ctlB]))
 have hxb:Ext H (H++[some (rnC n)]):=Ext.app _ _
 have hgb:(H++[some (rnC n)]).get H.length=some [encN n.i,encN n.m,encN n.ph,encN n.s,.bool n.u]:=get_app0
 change wpS cp lo _ _ _ (H++[some (rnC n)])
 generalize H++[some (rnC n)]=Hb at hxb hgb
 have hlb:=hxb.1
 have hbs:False∨base0 p n=if n.m=0∧n.i=p.length then 0 else 1099511627776:=.inr rfl
 have hbl:base0 p n≤1099511627776:=by rw[hbs.resolve_left id];split<;>omega
 unfold bestR
 generalize base0 p n=b0 at hbs hbl ⊢
 refine aw_midX (fun S' H'=>Hb=H'∧∃(z:Nat→Value),S'=[.slice ad p.length c,z 1,coV kb p,ptr H.length,z 4,encN b0,z 6,z 7,z 8,z 9,z 10,z 11,z 12]) ?_ ?_
 ·by_cases hc:n.m=0∧n.i=p.length
  ·have hb2:=hbs.resolve_left id
   rw[if_pos hc]at hb2
   subst hb2
   obtain⟨c1,c2⟩:=hc
   have d1:decide ((n.m:Int)=0)=true:=decide_eq_true (by omega)
   have d2:decide ((n.i:Int)=(p.length:Nat))=true:=decide_eq_true (by omega)
   replace c1:n.m≤0:=by omega
   replace c2:n.i≤p.length∧p.length≤n.i:=by omega
   refine xCDg (fun h=>?_) (fun h=>?_)
   ·clear h
    (try simp only[ctlB])
    repeat' ((first|refine xSDg ?_|refine xODg rfl ?_);(try simp only[ctlB]))
    exact⟨by trivial,exZDe rfl⟩
   ·exfalso;first|(simp at h;done)|cases h
  ·have hb2:=hbs.resolve_left id
   rw[if_neg hc]at hb2
   subst hb2
   have hcc:(decide ((n.m:Int)=0)&&decide ((n.i:Int)=(p.length:Nat)))=false:=by simp only[Bool.and_eq_false_iff,decide_eq_false_iff_not];omega
   refine xCDg (fun h=>?_) (fun h=>?_)
   ·exfalso;first|(rw[hcc]at h;cases h)|cases h
   ·(try simp only[ctlB])
    exact⟨by trivial,exZDe rfl⟩
 rintro S' Hc ⟨rfl,z,rfl⟩
 clear hbs
 (try simp only[ctlB])
 refine xHDg ?_
 refine wpH_call0 (stepsP (n:=n) (hs.ext hxb).pl hn hl (by omega)) ?_
 rintro r H1 ⟨hx1,b,hb,ho⟩
 have hok:=stepsR_ok hn
 have hsl:=stepsR_len p n
 generalize stepsR p n=L at ho hok hsl ⊢
 obtain⟨aw,rfl⟩:=ho.len (by omega) rsC_len
 have hs1:=hs.ext (hxb.trans hx1)
 have hx01:=hxb.trans hx1
 (try simp only[ctlB])
 repeat' ((first|refine xSDg ?_|refine xODg rfl ?_);(try simp only[ctlB]))
 refine aw_for (fun k S H'=>(Ext H1 H'∧(L.take k).foldl (minR C) b0≤1099511627776)∧∃(z:Nat→Value),S=[.slice ad p.length c,z 1,coV kb p,z 3,z 4,encN ((L.take k).foldl (minR C) b0),.slice aw L.length L.length,.int .i64 (k:Nat),z 8,z 9,z 10,z 11,z 12]) L.length ⟨⟨Ext.refl _,hbl⟩,exZDe rfl⟩ ?_ ?_ ?_
 ·rintro k S H' hk ⟨_,z,rfl⟩
  exact⟨decide ((k:Int)<(L.length:Nat)),by simp(disch:=first|omega|(simp only[lenB];omega))only[evB,xBDc,Nat.reduceAdd,Nat.reduceBEq,Int.reduceToNat, *],by simp⟩
 ·rintro k S H2 hk ⟨⟨hx2,hmx⟩,z,rfl⟩
  have hs2:=hs1.ext hx2
  have ho2:=ho.mono hx2
  obtain⟨p4,o4,X4,i4,g4,l4,e4⟩:=ho2.at (by omega) rsC_len hk
  have hoo:=hok _ (List.getElem_mem hk)
  have hr:(L.take (k+1)).foldl (minR C) b0=minR C ((L.take k).foldl (minR C) b0) L[k]:=by
   rw[List.take_succ_eq_append_getElem hk,List.foldl_append];rfl
  rw[hr]
  clear hr
  generalize (L.take k).foldl (minR C) b0=m at hmx ⊢
  generalize L[k]=x at e4 hoo ⊢
  have hj:∀j,j<9→X4[o4+j]?=(rsC x)[j]?:=fun j hj=>by rw[←e4,List.getElem?_take,if_pos hj,List.getElem?_drop]
  have f3:X4[o4+3]?=some (encN x.c):=hj 3 (by omega)
  have f4:X4[o4+4]?=some (encN x.to.i):=hj 4 (by omega)
  have f5:(X4.drop (o4+4)).take 5=rnC x.to:=by
   have h5:(X4.drop (o4+4)).take 5=((X4.drop o4).take 9).drop 4:=by rw[List.drop_take,List.drop_drop]
   rw[h5,e4]
   rfl
  have hil:=hoo.to.i
  have hnl:=numR_lt hoo.to
  have hxc:=hoo.c
  clear hj e4
  have hgc:=hs2.c
  have hlen:=hs2.len
  have hidx:x.to.i*128+numR x.to<C.length:=by omega
  have hat:=uN_at hidx
  have hle:=hs2.le (x.to.i*128+numR x.to)
  have hul:(uN C).length≤C.length∧C.length≤(uN C).length:=by simp
  have hm2:minR C m x=if x.c+C.getD (x.to.i*128+numR x.to) 0<m then x.c+C.getD (x.to.i*128+numR x.to) 0 else m:=rfl
  rw[hm2]
  clear hm2
  generalize C.getD (x.to.i*128+numR x.to) 0=y at hat hle ⊢
  obtain⟨U,hU⟩:∃U,False∨uN C=U:=⟨_,.inr rfl⟩
  rw[hU.resolve_left id]at hgc hat hul
  replace hlen:C.length≤(p.length+1)*128∧(p.length+1)*128≤C.length:=by omega
  have hno:=numP (lo:=H2.length) (H:=H2) hoo.to (by omega)
  generalize numR x.to=nx at hat hidx hnl hno
  (try simp only[ctlB])
  refine aw_hv_if (t:=true) (xEDg) (by simp(disch:=first|omega|(simp only[lenB];omega))only[evB,xBDc,Nat.reduceAdd,Nat.reduceBEq,Int.reduceToNat, *]) (by simp(disch:=first|omega|(simp only[lenB];omega))only[evB,xBDc,Nat.reduceAdd,Nat.reduceBEq,Int.reduceToNat, *];try rfl) (fun _=>⟨_,xEDg,?_⟩) (fun h=>by cases h)
  refine wpH_call1 hno ?_
  rintro r H3 ⟨hx3,rfl⟩
  have hgc3:=hx3.get hgc
  clear hno
  have e:False∨(if (x.c:Int)+(y:Nat)<(m:Nat) then(x.c:Int)+(y:Nat) else(m:Nat))=((if x.c+y<m then x.c+y else m:Nat):Int):=.inr (by
   by_cases hc:x.c+y<m
   ·rw[if_pos hc,if_pos (by omega)];omega
   ·rw[if_neg hc,if_neg (by omega)])
  have hmm:(if x.c+y<m then x.c+y else m:Nat)≤1099511627776:=by split<;>omega
  (try simp only[ctlB])
  repeat' ((first|refine xSDg ?_|refine xODg rfl ?_);(try simp only[ctlB]))
  rw[e.resolve_left id]
  exact⟨⟨hx2.trans hx3,hmm⟩,exZDe rfl⟩
 ·rintro S H2 ⟨⟨hx2,hmx⟩,z,rfl⟩
  rw[List.take_length]at hmx ⊢
  (try simp only[ctlB])
  repeat' ((first|refine xSDg ?_|refine xODg rfl ?_);(try simp only[ctlB]))
  refine xRDg ?_
  exact⟨hx01.trans hx2,rfl⟩
end
end Go.Proofs.Ythnflhimcmdnbaa
namespace Go.Proofs.Ythnflhimcmdnbaa
open Go.Abs
set_option linter.unusedSimpArgs false
set_option linter.unusedVariables false
set_option maxRecDepth 20000
section
variable {α:Type}{enc:α→List Value}{n:Nat}
theorem one_cat(h1:∀x,oneCells (enc x)=true)(rs:List α):oneCells (cat enc rs)=true:=by
 induction rs with
 | nil=>rfl
 | cons x l ih=>
  have:cat enc (x::l)=enc x++cat enc l:=by simp[cat]
  rw[this]
  have h2:=h1 x
  unfold oneCells at h2 ih ⊢
  rw[List.all_append,h2,ih];rfl
theorem appKs{cp:FuncId→Option CF}{lo:Nat}{z:List Value}{H:Heap}{v:Value}{b t:Nat}{sp:Option Nat}{m d:Nat}{L:List α}{rs:List α}{R:Value→Heap→Prop}(hd:0<d)(hr:rs.length=d)(hn:0<n)(hn2:n≤100)(he:∀x,(enc x).length=n)(h1:∀x,oneCells (enc x)=true)(ho:OwnG lo n H v b (cat enc L))(hlo:lo≤H.length)(hbig:L.length≤10000000)(hd2:d≤10000)(ht:H.get t=some (cat enc rs))
  (k:∀v' H',AppG lo n H b (cat enc (L++rs)) v' H'→R v' H'):wpH cp lo (.app n z) [v,.slice (some ⟨t,0,sp⟩) d m] H R:=by
 have hcl:=cat_len he L
 have hcb:(cat enc L).length≤1000000000:=by
  rw[hcl]
  exact Nat.le_trans (Nat.mul_le_mul hbig hn2) (by decide)
 have hl1:(cat enc rs).length=d*n:=by rw[cat_len he,hr]
 have ho1:=one_cat h1 rs
 have happ:cat enc (L++rs)=cat enc L++cat enc rs:=cat_app _ _
 rw[happ]at k
 rcases ho with ho|⟨hb,q,hq0,hq,rfl,hg⟩
 ·refine wpH_app ho (by omega) hn (by omega) (by omega) ht (by omega) (c:=cat enc rs) (by rw[List.drop_zero,List.take_of_length_le (by omega)]) ho1 ?_
  intro v' H' ho' hk hl'
  exact k v' H' ⟨H.length,.inr (Nat.le_refl _),by omega,.inl ho',hk⟩
 ·have e1:H.cells t 0 (d*n)=some (cat enc rs):=by rw[cells_get ht (by omega),List.drop_zero,List.take_of_length_le (by omega)]
  have e2:H.cells b 0 (q*n)=some (cat enc L):=by rw[cells_get hg (by omega),List.drop_zero,List.take_of_length_le (by omega)]
  have hq1:q≤(cat enc L).length:=by rw[←hq];exact Nat.le_mul_of_pos_right q hn
  simp only[wpH,hsem0,hsem,e1,Option.bind_some,ho1,if_true,appendSem]
  rw[if_neg (by omega),if_neg (by show ¬ mostNeed<_;unfold mostNeed;omega),e2]
  simp only[Option.map_some]
  refine k _ _ ⟨H.length,.inr (Nat.le_refl _),by simp,.inl ⟨by omega,.inr ⟨q+d,by omega,?_,rfl,?_⟩⟩,Ext.keep (Ext.app _ _)⟩
  ·rw[List.length_append,←hq,Nat.add_mul,hl1]
  ·rw[get_app0]
end
def nd2(i m ph s:Nat):List RN:=[⟨i,m,ph,s,false⟩,⟨i,m,ph,s,true⟩]
def ndS(i m ph k:Nat):List RN:=(List.range k).flatMap fun s=>nd2 i m ph s
def ndP(i m k:Nat):List RN:=(List.range k).flatMap fun ph=>ndS i m ph 4
def ndM(i k:Nat):List RN:=(List.range k).flatMap fun m=>ndP i (m+1) 3
def ndE(i k:Nat):List RN:=(List.range k).flatMap fun ph=>(if ph<3 then[⟨i,3,ph,0,false⟩] else[])++[⟨i,4,ph,0,false⟩]
def nodesR(i:Nat):List RN:=[asR i]++ndM i 2++ndE i 4
theorem fm_succ{β:Type}(f:Nat→List β)(k:Nat):(List.range (k+1)).flatMap f=(List.range k).flatMap f++f k:=by
 rw[List.range_succ,List.flatMap_append];simp
theorem ndS_succ(i m ph k:Nat):ndS i m ph (k+1)=ndS i m ph k++nd2 i m ph k:=fm_succ _ _
theorem ndP_succ(i m k:Nat):ndP i m (k+1)=ndP i m k++ndS i m k 4:=fm_succ _ _
theorem ndM_succ(i k:Nat):ndM i (k+1)=ndM i k++ndP i (k+1) 3:=fm_succ _ _
theorem ndE_succ(i k:Nat):ndE i (k+1)=ndE i k++((if k<3 then[⟨i,3,k,0,false⟩] else[])++[⟨i,4,k,0,false⟩]):=fm_succ _ _
theorem ndS_len(i m ph k:Nat):(ndS i m ph k).length≤k*2:=by
 have:=flatMap_le (f:=fun s=>nd2 i m ph s) (c:=2) (l:=List.range k) (fun x _=>by simp[nd2])
 simpa[ndS]using this
theorem ndP_len(i m k:Nat):(ndP i m k).length≤k*8:=by
 have:=flatMap_le (f:=fun ph=>ndS i m ph 4) (c:=8) (l:=List.range k) (fun x _=>ndS_len _ _ _ _)
 simpa[ndP]using this
theorem ndM_len(i k:Nat):(ndM i k).length≤k*24:=by
 have:=flatMap_le (f:=fun m=>ndP i (m+1) 3) (c:=24) (l:=List.range k) (fun x _=>ndP_len _ _ _)
 simpa[ndM]using this
theorem ndE_len(i k:Nat):(ndE i k).length≤k*2:=by
 have:=flatMap_le (f:=fun ph=>(if ph<3 then[(⟨i,3,ph,0,false⟩:RN)] else[])++[⟨i,4,ph,0,false⟩]) (c:=2) (l:=List.range k) (fun x _=>by split<;>simp)
 simpa[ndE]using this
section
variable {lo:Nat}{H:Heap}
theorem nodesP{i:Nat}(hi:i≤4096)(hlo:lo≤H.length):Ev cp lo 28 [encN i] H (fun r H'=>Ext H H'∧∃b,H.length≤b∧OwnG lo 5 H' r b (cat rnC (nodesR i))):=by
 refine st28 ?_;unfold bd28 cf28;simp only[kB,ctlB]
 repeat' ((first|refine xSDg ?_|refine xODg rfl ?_);(try simp only[ctlB]))
 have hxb:Ext H (H++[some (rnC (asR i))]):=Ext.app _ _
 have hgb:(H++[some (rnC (asR i))]).get H.length=some (rnC (asR i)):=get_app0
 change wpS cp lo _ _ _ (H++[some (rnC (asR i))])
 generalize H++[some (rnC (asR i))]=Hb at hxb hgb
 have ho:OwnG lo 5 Hb (.slice (some ⟨H.length,0,none⟩) 1 1) H.length (cat rnC [asR i]):=.inr ⟨by omega,1,by omega,rfl,rfl,hgb⟩
 refine aw_midXB (fun S' H'=>Ext H H'∧∃w b,(H.length≤b∧OwnG lo 5 H' w b (cat rnC ([asR i]++ndM i 2)))∧∃(z:Nat→Value),S'=[encN i,z 1,w,z 3,z 4,z 5,z 6,z 7,z 8,z 9,z 10,z 11,z 12,z 13,z 14,z 15,z 16]) ?_ ?_
 ·refine aw_for (fun k S H'=>Ext H H'∧∃w b,(H.length≤b∧OwnG lo 5 H' w b (cat rnC ([asR i]++ndM i k)))∧∃(z:Nat→Value),S=[encN i,z 1,w,.int .i64 ((k+1:Nat):Int),z 4,z 5,z 6,z 7,z 8,z 9,z 10,z 11,z 12,z 13,z 14,z 15,z 16]) 2 ⟨hxb,_,H.length,⟨Nat.le_refl _,by simpa[ndM]using ho⟩,exZDe rfl⟩ ?_ ?_ ?_
  ·rintro k S H' hk ⟨_,w,b,_,z,rfl⟩
   exact⟨decide (((k+1:Nat):Int)≤2),by simp(disch:=first|omega|(simp only[lenB];omega))only[evB,xBDc,Nat.reduceAdd,Nat.reduceBEq,Int.reduceToNat, *],by simp;omega⟩
  ·rintro m S H1 hm ⟨hx1,w,b,⟨hb,ho⟩,z,rfl⟩
   have hLl:([asR i]++ndM i m).length≤50:=by have:=ndM_len i m;simp;omega
   rw[ndM_succ,←List.append_assoc]
   generalize [asR i]++ndM i m=L at ho hLl ⊢
   clear hxb hgb
   (try simp only[ctlB])
   repeat' ((first|refine xSDg ?_|refine xODg rfl ?_);(try simp only[ctlB]))
   refine aw_for (fun k S H'=>Ext H H'∧∃w b,(H.length≤b∧OwnG lo 5 H' w b (cat rnC (L++ndP i (m+1) k)))∧∃(z:Nat→Value),S=[encN i,z 1,w,.int .i64 ((m+1:Nat):Int),.int .i64 (k:Nat),z 5,z 6,z 7,z 8,z 9,z 10,z 11,z 12,z 13,z 14,z 15,z 16]) 3 ⟨hx1,w,b,⟨hb,by simpa[ndP]using ho⟩,exZDe rfl⟩ ?_ ?_ ?_
   ·rintro k S H' hk ⟨_,w,b,_,z,rfl⟩
    exact⟨decide (((k:Nat):Int)<3),by simp(disch:=first|omega|(simp only[lenB];omega))only[evB,xBDc,Nat.reduceAdd,Nat.reduceBEq,Int.reduceToNat, *],by simp;omega⟩
   ·rintro ph S H2 hph ⟨hx2,w,b,⟨hb,ho⟩,z,rfl⟩
    have hLl2:(L++ndP i (m+1) ph).length≤100:=by have:=ndP_len i (m+1) ph;simp;omega
    rw[ndP_succ,←List.append_assoc]
    generalize L++ndP i (m+1) ph=L2 at ho hLl2 ⊢
    clear hx1 hLl
    (try simp only[ctlB])
    repeat' ((first|refine xSDg ?_|refine xODg rfl ?_);(try simp only[ctlB]))
    refine aw_for (fun k S H'=>Ext H H'∧∃w b,(H.length≤b∧OwnG lo 5 H' w b (cat rnC (L2++ndS i (m+1) ph k)))∧∃(z:Nat→Value),S=[encN i,z 1,w,.int .i64 ((m+1:Nat):Int),.int .i64 (ph:Nat),.int .i64 (k:Nat),z 6,z 7,z 8,z 9,z 10,z 11,z 12,z 13,z 14,z 15,z 16]) 4 ⟨hx2,w,b,⟨hb,by simpa[ndS]using ho⟩,exZDe rfl⟩ ?_ ?_ ?_
    ·rintro k S H' hk ⟨_,w,b,_,z,rfl⟩
     exact⟨decide (((k:Nat):Int)<4),by simp(disch:=first|omega|(simp only[lenB];omega))only[evB,xBDc,Nat.reduceAdd,Nat.reduceBEq,Int.reduceToNat, *],by simp;omega⟩
    ·rintro k S H3 hk ⟨hx3,w,b,⟨hb,ho⟩,z,rfl⟩
     have hLl3:(L2++ndS i (m+1) ph k).length≤200:=by have:=ndS_len i (m+1) ph k;simp;omega
     rw[ndS_succ,←List.append_assoc]
     generalize L2++ndS i (m+1) ph k=L3 at ho hLl3 ⊢
     clear hx2 hLl2
     have hl3:=hx3.1
     (try simp only[ctlB])
     repeat' ((first|refine xSDg ?_|refine xODg rfl ?_);(try simp only[ctlB]))
     change wpS cp lo _ _ _ (H3++[some (cat rnC (nd2 i (m+1) ph k))])
     have hxc:Ext H3 (H3++[some (cat rnC (nd2 i (m+1) ph k))]):=Ext.app _ _
     have hgc:(H3++[some (cat rnC (nd2 i (m+1) ph k))]).get H3.length=some (cat rnC (nd2 i (m+1) ph k)):=get_app0
     have hlc:=hxc.1
     have hx4:=hx3.trans hxc
     generalize H3++[some (cat rnC (nd2 i (m+1) ph k))]=H4 at hxc hgc hlc hx4
     refine xHDg ?_
     refine appKs (enc:=rnC) (rs:=nd2 i (m+1) ph k) (by omega) rfl (by omega) (by omega) rnC_len rnC_one (ho.mono hxc) (by omega) (by omega) (by omega) hgc ?_
     intro w5 H5 hap
     have hx5:=hap.ext hx4 hb
     obtain⟨b5,k1,k2,k3,k4⟩:=hap
     have hl4:=hx4.1
     (try simp only[ctlB])
     repeat' ((first|refine xSDg ?_|refine xODg rfl ?_);(try simp only[ctlB]))
     exact⟨hx5,w5,b5,⟨by omega,k3⟩,exZDe (by first|rfl|(simp only[Int.natCast_add,Int.natCast_one];rfl)|simp only[Int.natCast_add,Int.natCast_one])⟩
    ·rintro S H3 ⟨hx3,w,b,⟨hb,ho⟩,z,rfl⟩
     (try simp only[ctlB])
     repeat' ((first|refine xSDg ?_|refine xODg rfl ?_);(try simp only[ctlB]))
     exact⟨hx3,w,b,⟨hb,ho⟩,exZDe (by first|rfl|(simp only[Int.natCast_add,Int.natCast_one];rfl)|simp only[Int.natCast_add,Int.natCast_one])⟩
   ·rintro S H3 ⟨hx3,w,b,⟨hb,ho⟩,z,rfl⟩
    (try simp only[ctlB])
    repeat' ((first|refine xSDg ?_|refine xODg rfl ?_);(try simp only[ctlB]))
    exact⟨hx3,w,b,⟨hb,ho⟩,exZDe (by first|rfl|(simp only[Int.natCast_add,Int.natCast_one];rfl)|simp only[Int.natCast_add,Int.natCast_one])⟩
  ·rintro S H3 ⟨hx3,w,b,⟨hb,ho⟩,z,rfl⟩
   (try simp only[ctlB])
   exact⟨hx3,w,b,⟨hb,ho⟩,exZDe rfl⟩
 clear hxb hgb ho
 rintro S' H2 ⟨hx2,w,b,⟨hb,ho⟩,z,rfl⟩
 have hLl:([asR i]++ndM i 2).length≤50:=by have:=ndM_len i 2;simp;omega
 unfold nodesR
 generalize [asR i]++ndM i 2=L at ho hLl ⊢
 (try simp only[ctlB])
 repeat' ((first|refine xSDg ?_|refine xODg rfl ?_);(try simp only[ctlB]))
 refine aw_for (fun k S H'=>Ext H H'∧∃w b,(H.length≤b∧OwnG lo 5 H' w b (cat rnC (L++ndE i k)))∧∃(z:Nat→Value),S=[encN i,z 1,w,z 3,z 4,z 5,.int .i64 (k:Nat),z 7,z 8,z 9,z 10,z 11,z 12,z 13,z 14,z 15,z 16]) 4 ⟨hx2,w,b,⟨hb,by simpa[ndE]using ho⟩,exZDe rfl⟩ ?_ ?_ ?_
 ·rintro k S H' hk ⟨_,w,b,_,z,rfl⟩
  exact⟨decide (((k:Nat):Int)<4),by simp(disch:=first|omega|(simp only[lenB];omega))only[evB,xBDc,Nat.reduceAdd,Nat.reduceBEq,Int.reduceToNat, *],by simp;omega⟩
 ·rintro k S H3 hk ⟨hx3,w,b,⟨hb,ho⟩,z,rfl⟩
  have hLl3:(L++ndE i k).length≤100:=by have:=ndE_len i k;simp;omega
  rw[ndE_succ,←List.append_assoc,←List.append_assoc]
  generalize L++ndE i k=L3 at ho hLl3 ⊢
  clear hx2 hLl
  have hl3:=hx3.1
  (try simp only[ctlB])
  refine aw_midX (fun S' H'=>Ext H H'∧∃w b,(H.length≤b∧OwnG lo 5 H' w b (cat rnC (L3++if k<3 then[⟨i,3,k,0,false⟩] else[])))∧∃(z:Nat→Value),S'=[encN i,z 1,w,z 3,z 4,z 5,.int .i64 (k:Nat),z 7,z 8,z 9,z 10,z 11,z 12,z 13,z 14,z 15,z 16]) ?_ ?_
  ·by_cases hk3:k<3
   ·have hd:decide ((k:Int)<3)=true:=decide_eq_true (by omega)
    rw[if_pos hk3]
    refine xCDg (fun h=>?_) (fun h=>?_)
    ·clear h hd
     (try simp only[ctlB])
     repeat' ((first|refine xSDg ?_|refine xODg rfl ?_);(try simp only[ctlB]))
     change wpS cp lo _ _ _ (H3++[some (rnC ⟨i,3,k,0,false⟩)])
     have hxc:Ext H3 (H3++[some (rnC ⟨i,3,k,0,false⟩)]):=Ext.app _ _
     have hgc:(H3++[some (rnC ⟨i,3,k,0,false⟩)]).get H3.length=some (cat rnC [⟨i,3,k,0,false⟩]):=get_app0
     have hlc:=hxc.1
     have hx4:=hx3.trans hxc
     generalize H3++[some (rnC ⟨i,3,k,0,false⟩)]=H4 at hxc hgc hlc hx4
     refine xHDg ?_
     refine appKs (enc:=rnC) (rs:=[⟨i,3,k,0,false⟩]) (by omega) rfl (by omega) (by omega) rnC_len rnC_one (ho.mono hxc) (by omega) (by omega) (by omega) hgc ?_
     intro w5 H5 hap
     have hx5:=hap.ext hx4 hb
     obtain⟨b5,k1,k2,k3,k4⟩:=hap
     have hl4:=hx4.1
     (try simp only[ctlB])
     repeat' ((first|refine xSDg ?_|refine xODg rfl ?_);(try simp only[ctlB]))
     exact⟨hx5,w5,b5,⟨by omega,k3⟩,exZDe (by first|rfl|(simp only[Int.natCast_add,Int.natCast_one];rfl)|simp only[Int.natCast_add,Int.natCast_one])⟩
    ·exfalso;simp at h
   ·have hd:decide ((k:Int)<3)=false:=decide_eq_false (by omega)
    rw[if_neg hk3]
    refine xCDg (fun h=>?_) (fun h=>?_)
    ·exfalso;simp at h
    ·clear h hd
     (try simp only[ctlB])
     exact⟨hx3,w,b,⟨hb,by simpa using ho⟩,exZDe rfl⟩
  clear hx3 ho hb hl3
  rintro S' H3 ⟨hx3,w,b,⟨hb,ho⟩,z,rfl⟩
  have hl3:=hx3.1
  have hLl4:(L3++if k<3 then[(⟨i,3,k,0,false⟩:RN)] else[]).length≤101:=by split<;>simp<;>omega
  generalize (L3++if k<3 then[(⟨i,3,k,0,false⟩:RN)] else[])=L4 at ho hLl4 ⊢
  (try simp only[ctlB])
  repeat' ((first|refine xSDg ?_|refine xODg rfl ?_);(try simp only[ctlB]))
  change wpS cp lo _ _ _ (H3++[some (rnC ⟨i,4,k,0,false⟩)])
  have hxc:Ext H3 (H3++[some (rnC ⟨i,4,k,0,false⟩)]):=Ext.app _ _
  have hgc:(H3++[some (rnC ⟨i,4,k,0,false⟩)]).get H3.length=some (cat rnC [⟨i,4,k,0,false⟩]):=get_app0
  have hlc:=hxc.1
  have hx4:=hx3.trans hxc
  generalize H3++[some (rnC ⟨i,4,k,0,false⟩)]=H4 at hxc hgc hlc hx4
  refine xHDg ?_
  refine appKs (enc:=rnC) (rs:=[⟨i,4,k,0,false⟩]) (by omega) rfl (by omega) (by omega) rnC_len rnC_one (ho.mono hxc) (by omega) (by omega) (by omega) hgc ?_
  intro w5 H5 hap
  have hx5:=hap.ext hx4 hb
  obtain⟨b5,k1,k2,k3,k4⟩:=hap
  have hl4:=hx4.1
  (try simp only[ctlB])
  repeat' ((first|refine xSDg ?_|refine xODg rfl ?_);(try simp only[ctlB]))
  exact⟨hx5,w5,b5,⟨by omega,k3⟩,exZDe (by first|rfl|(simp only[Int.natCast_add,Int.natCast_one];rfl)|simp only[Int.natCast_add,Int.natCast_one])⟩
 ·rintro S H3 ⟨hx3,w,b,⟨hb,ho⟩,z,rfl⟩
  (try simp only[ctlB])
  repeat' ((first|refine xSDg ?_|refine xODg rfl ?_);(try simp only[ctlB]))
  refine xRDg ?_
  exact⟨hx3,b,hb,ho⟩
end
end Go.Proofs.Ythnflhimcmdnbaa
