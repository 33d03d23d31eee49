/- Dmtext, the reference: the steps in ASCII. -/
import Derived.Test.YthnflhimcmdnbaaT31
set_option linter.unusedVariables false
set_option linter.unusedSimpArgs false
set_option linter.unusedSectionVars false
namespace Go.Proofs.Ythnflhimcmdnbaa
open Go.Abs
set_option linter.unusedSimpArgs false
set_option linter.unusedVariables false
set_option maxRecDepth 20000
theorem pairR_len(p:List UInt8)(i:Nat):(pairR p i).length≤1:=by unfold pairR;split<;>simp
theorem lowR_len(p:List UInt8)(i:Nat):(lowR p i).length≤1:=by unfold lowR;split<;>simp
theorem highR_len(p:List UInt8)(i:Nat):(highR p i).length≤1:=by unfold highR;split<;>simp
theorem latR_succ(i k:Nat):latR i (k+1)=latR i k++[⟨latW (k+1),-1,-1,1,⟨i,k+1,0,0,false⟩⟩]:=by
 unfold latR;rw[List.range_succ,List.map_append];rfl
theorem runsR_succ(i k:Nat):runsR i (k+1)=runsR i k++[runR i (k+1)]:=by
 unfold runsR;rw[List.range_succ,List.map_append];rfl
section
variable {lo:Nat}{H:Heap}{v:Value}{p:List UInt8}
theorem OwnG.away{n b c A:Nat}{w:Value}{X:List Value}(h:OwnG lo n H w b X)(hb:A≤b)(hc:H.length≤c)(hA:A≤c)(hlo:lo≤c):∃b',(A≤b'∧b'≠c)∧OwnG lo n H w b' X:=by
 rcases h with ⟨h1,h|⟨m,h2,h3,h4,h5⟩⟩|⟨h1,m,h2,h3,h4,h5⟩
 ·exact⟨c+1,by omega,.inl ⟨by omega,.inl h⟩⟩
 ·have:=Heap.get_lt h5
  exact⟨b,by omega,.inl ⟨h1,.inr ⟨m,h2,h3,h4,h5⟩⟩⟩
 ·have:=Heap.get_lt h5
  exact⟨b,by omega,.inr ⟨h1,m,h2,h3,h4,h5⟩⟩
theorem startsP{i:Nat}(hv:SlU H v p)(hi:i≤p.length)(hl:p.length≤4096)(hlo:lo≤H.length):Ev cp lo 41 [v,encN i] H (fun r H'=>Ext H H'∧∃b,H.length≤b∧OwnG lo 9 H' r b (cat rsC (startsR p i))):=by
 obtain⟨ad,c,ev⟩:=hv.len
 rw[ev]at hv ⊢
 clear ev
 have p1:=pairR_len p i
 have p2:=lowR_len p i
 have p3:=highR_len p i
 refine st41 ?_;unfold bd41 cf41;simp only[kB,ctlB]
 repeat' ((first|refine xSDg ?_|refine xODg rfl ?_);(try simp only[ctlB]))
 rw[←aw_seq,←aw_seq]
 refine aw_midX (fun S' H'=>Ext H H'∧∃w b,(H.length≤b∧OwnG lo 9 H' w b (cat rsC (pairR p i)))∧∃(z:Nat→Value),S'=[.slice ad p.length c,encN i,z 2,w,z 4,z 5,z 6,z 7,z 8,z 9,z 10,z 11,z 12,z 13,z 14,z 15,z 16,z 17,z 18,z 19,z 20,z 21,z 22,z 23,z 24,z 25,z 26,z 27,z 28]) ?_ ?_
 ·by_cases h2:i+1<p.length
  ·have hd2:decide ((i:Int)+1<(p.length:Nat))=true:=decide_eq_true (by omega)
   obtain⟨bb,oo,xs,hia,hgx,hxx⟩:=sl_at hv (k:=i) (by omega)
   have hby:=(p.getD i 0).toNat_lt
   replace hxx:xs[oo]?=some (.int .u8 ((p.getD i 0).toNat:Nat)):=hxx
   obtain⟨bb2,oo2,xs2,hia2,hgx2,hxx2⟩:=sl_at hv (k:=i+1) (by omega)
   have hby2:=(p.getD (i+1) 0).toNat_lt
   replace hxx2:xs2[oo2]?=some (.int .u8 ((p.getD (i+1) 0).toNat:Nat)):=hxx2
   simp only[Int.natCast_add,Int.natCast_one]at hia2
   have hP:pairR p i=if i+1<p.length∧digB (p.getD i 0).toNat=true∧digB (p.getD (i+1) 0).toNat=true then[⟨130+10*((p.getD i 0).toNat-48)+((p.getD (i+1) 0).toNat-48),-1,-1,1,asR (i+2)⟩] else[]:=rfl
   replace hP:False∨_:=.inr hP
   obtain⟨y,hy⟩:∃y,False∨(p.getD i 0).toNat=y:=⟨_,.inr rfl⟩
   obtain⟨y2,hy2⟩:∃y,False∨(p.getD (i+1) 0).toNat=y:=⟨_,.inr rfl⟩
   rw[hy.resolve_left id]at hxx hby hP
   rw[hy2.resolve_left id]at hxx2 hby2 hP
   (try simp only[ctlB])
   refine aw_hv_if (t:=true) (xEDg) (by simp(disch:=first|omega|(simp only[lenB];omega))only[evB,xBDc,Nat.reduceAdd,Nat.reduceBEq,Int.reduceToNat, *]) (by simp(disch:=first|omega|(simp only[lenB];omega))only[evB,xBDc,Nat.reduceAdd,Nat.reduceBEq,Int.reduceToNat, *];try rfl) (fun _=>⟨_,xEDg,?_⟩) (fun h=>by cases h)
   refine wpH_call0 (digRP (lo:=lo) (k:=y) hby hlo) ?_
   rintro r H2 ⟨rfl,hx2⟩
   have hl2:=hx2.1
   clear hia hia2 hgx hgx2 hxx hxx2
   obtain⟨bb2,oo2,xs2,hia2,hgx2,hxx2⟩:=sl_at (hv.mono hx2) (k:=i+1) (by omega)
   replace hxx2:xs2[oo2]?=some (.int .u8 ((p.getD (i+1) 0).toNat:Nat)):=hxx2
   rw[hy2.resolve_left id]at hxx2
   simp only[Int.natCast_add,Int.natCast_one]at hia2
   by_cases hdq:digB y=true
   ·rw[hdq]
    (try simp only[ctlB])
    refine aw_hv_if (t:=true) (xEDg) (by simp(disch:=first|omega|(simp only[lenB];omega))only[evB,xBDc,Nat.reduceAdd,Nat.reduceBEq,Int.reduceToNat, *]) (by simp(disch:=first|omega|(simp only[lenB];omega))only[evB,xBDc,Nat.reduceAdd,Nat.reduceBEq,Int.reduceToNat, *];try rfl) (fun _=>⟨_,xEDg,?_⟩) (fun h=>by cases h)
    refine wpH_call0 (digRP (lo:=lo) (k:=y2) hby2 (by omega)) ?_
    rintro r H3 ⟨rfl,hx3⟩
    have hx13:=hx2.trans hx3
    have hl3:=hx13.1
    clear hia2 hgx2 hxx2
    by_cases hdq2:digB y2=true
    ·have hr1:=digB_iff.1 hdq
     have hr2:=digB_iff.1 hdq2
     have hP2:=hP.resolve_left id
     rw[if_pos ⟨h2,hdq,hdq2⟩]at hP2
     rw[hP2,hdq2]
     clear hP hP2
     obtain⟨bb,oo,xs,hia,hgx,hxx⟩:=sl_at (hv.mono hx13) (k:=i) (by omega)
     replace hxx:xs[oo]?=some (.int .u8 ((p.getD i 0).toNat:Nat)):=hxx
     rw[hy.resolve_left id]at hxx
     obtain⟨bb2,oo2,xs2,hia2,hgx2,hxx2⟩:=sl_at (hv.mono hx13) (k:=i+1) (by omega)
     replace hxx2:xs2[oo2]?=some (.int .u8 ((p.getD (i+1) 0).toNat:Nat)):=hxx2
     rw[hy2.resolve_left id]at hxx2
     simp only[Int.natCast_add,Int.natCast_one]at hia2
     have e1:(y:Int)-48=((y-48:Nat):Int):=by omega
     have e2:(y2:Int)-48=((y2-48:Nat):Int):=by omega
     have hm1:y-48≤9:=by omega
     have hm2:y2-48≤9:=by omega
     clear hdq hdq2 hr1 hr2
     generalize y-48=m1 at e1 hm1 ⊢
     generalize y2-48=m2 at e2 hm2 ⊢
     (try simp only[ctlB])
     refine xCDg (fun h=>?_) (fun h=>?_)
     ·clear h
      (try simp only[ctlB])
      repeat' ((first|refine xSDg ?_|refine xODg rfl ?_);(try simp only[ctlB]))
      refine⟨hx13.trans (Ext.app _ _),_,H3.length+1,⟨by omega,.inl ⟨by omega,.inr ⟨1,by omega,rfl,rfl,?_⟩⟩⟩,exZDe (by first|rfl|(simp only[Int.natCast_add,Int.natCast_one];rfl)|simp only[Int.natCast_add,Int.natCast_one])⟩
      rw[get_appS]
      rfl
     ·cases h
    ·have hP2:=hP.resolve_left id
     rw[if_neg (fun h=>hdq2 h.2.2)]at hP2
     rw[hP2,Bool.eq_false_iff.2 hdq2]
     clear hP hP2
     (try simp only[ctlB])
     refine xCDg (fun h=>?_) (fun h=>?_)
     ·cases h
     ·(try simp only[ctlB])
      exact⟨hx13,_,H.length,⟨Nat.le_refl _,OwnG.nil hlo⟩,exZDe (by first|rfl|(simp only[Int.natCast_add,Int.natCast_one];rfl)|simp only[Int.natCast_add,Int.natCast_one])⟩
   ·have hP2:=hP.resolve_left id
    rw[if_neg (fun h=>hdq h.2.1)]at hP2
    rw[hP2,Bool.eq_false_iff.2 hdq]
    clear hP hP2
    (try simp only[ctlB])
    refine aw_hv_if (t:=false) (xEDg) (by simp(disch:=first|omega|(simp only[lenB];omega))only[evB,xBDc,Nat.reduceAdd,Nat.reduceBEq,Int.reduceToNat, *]) (by simp(disch:=first|omega|(simp only[lenB];omega))only[evB,xBDc,Nat.reduceAdd,Nat.reduceBEq,Int.reduceToNat, *];try rfl) (fun h=>by cases h) (fun _=>?_)
    (try simp only[ctlB])
    refine xCDg (fun h=>?_) (fun h=>?_)
    ·cases h
    ·(try simp only[ctlB])
     exact⟨hx2,_,H.length,⟨Nat.le_refl _,OwnG.nil hlo⟩,exZDe (by first|rfl|(simp only[Int.natCast_add,Int.natCast_one];rfl)|simp only[Int.natCast_add,Int.natCast_one])⟩
  ·have hd2:decide ((i:Int)+1<(p.length:Nat))=false:=decide_eq_false (by omega)
   have hP:pairR p i=[]:=by unfold pairR;rw[if_neg (fun h=>h2 h.1)]
   rw[hP]
   clear hP
   (try simp only[ctlB])
   refine aw_hv_if (t:=false) (xEDg) (by simp(disch:=first|omega|(simp only[lenB];omega))only[evB,xBDc,Nat.reduceAdd,Nat.reduceBEq,Int.reduceToNat, *]) (by simp(disch:=first|omega|(simp only[lenB];omega))only[evB,xBDc,Nat.reduceAdd,Nat.reduceBEq,Int.reduceToNat, *];try rfl) (fun h=>by cases h) (fun _=>?_)
   (try simp only[ctlB])
   refine aw_hv_if (t:=false) (xEDg) (by simp(disch:=first|omega|(simp only[lenB];omega))only[evB,xBDc,Nat.reduceAdd,Nat.reduceBEq,Int.reduceToNat, *]) (by simp(disch:=first|omega|(simp only[lenB];omega))only[evB,xBDc,Nat.reduceAdd,Nat.reduceBEq,Int.reduceToNat, *];try rfl) (fun h=>by cases h) (fun _=>?_)
   (try simp only[ctlB])
   refine xCDg (fun h=>?_) (fun h=>?_)
   ·cases h
   ·(try simp only[ctlB])
    exact⟨Ext.refl _,_,H.length,⟨Nat.le_refl _,OwnG.nil hlo⟩,exZDe (by first|rfl|(simp only[Int.natCast_add,Int.natCast_one];rfl)|simp only[Int.natCast_add,Int.natCast_one])⟩
 rintro S' H1 ⟨hx1,w,b,⟨hb,ho⟩,z,rfl⟩
 have hl1:=hx1.1
 (try simp only[ctlB])
 refine aw_midX (fun S' H'=>Ext H H'∧∃w b,(H.length≤b∧OwnG lo 9 H' w b (cat rsC (pairR p i++lowR p i)))∧∃(z:Nat→Value),S'=[.slice ad p.length c,encN i,z 2,w,z 4,z 5,z 6,z 7,z 8,z 9,z 10,z 11,z 12,z 13,z 14,z 15,z 16,z 17,z 18,z 19,z 20,z 21,z 22,z 23,z 24,z 25,z 26,z 27,z 28]) ?_ ?_
 ·have hP:lowR p i=if i<p.length∧(p.getD i 0).toNat<128 then[⟨(p.getD i 0).toNat+1,-1,-1,1,asR (i+1)⟩] else[]:=rfl
  rw[hP]
  clear hP
  by_cases hil:i<p.length
  ·have hd:decide ((i:Int)<(p.length:Nat))=true:=decide_eq_true (by omega)
   obtain⟨bb,oo,xs,hia,hgx,hxx⟩:=sl_at (hv.mono hx1) hil
   have hby:=(p.getD i 0).toNat_lt
   replace hxx:xs[oo]?=some (.int .u8 ((p.getD i 0).toNat:Nat)):=hxx
   generalize (p.getD i 0).toNat=y at hxx hby ⊢
   by_cases hc:y<128
   ·have hd2:decide ((y:Int)<128)=true:=decide_eq_true (by omega)
    rw[if_pos ⟨hil,hc⟩]
    refine xCDg (fun h=>?_) (fun h=>?_)
    ·clear h hd hd2
     (try simp only[ctlB])
     repeat' ((first|refine xSDg ?_|refine xODg rfl ?_);(try simp only[ctlB]))
     change wpS cp lo _ _ _ (H1++[some (rsC ⟨y+1,-1,-1,1,asR (i+1)⟩)])
     refine xHDg ?_
     refine stApp (o:=⟨y+1,-1,-1,1,asR (i+1)⟩) ho (by omega) (by omega) ?_
     intro w3 H3 hap
     have hx3:=hap.ext hx1 hb
     obtain⟨b3,k1,k2,k3,k4⟩:=hap
     (try simp only[ctlB])
     repeat' ((first|refine xSDg ?_|refine xODg rfl ?_);(try simp only[ctlB]))
     exact⟨hx3,w3,b3,⟨by omega,k3⟩,exZDe (by first|rfl|(simp only[Int.natCast_add,Int.natCast_one];rfl)|simp only[Int.natCast_add,Int.natCast_one])⟩
    ·exfalso;first|(simp at h;done)|cases h
   ·have hd2:decide ((y:Int)<128)=false:=decide_eq_false (by omega)
    rw[if_neg (fun h=>hc h.2),List.append_nil]
    refine xCDg (fun h=>?_) (fun h=>?_)
    ·exfalso;first|(simp at h;done)|cases h
    ·(try simp only[ctlB])
     exact⟨hx1,_,b,⟨hb,ho⟩,exZDe (by first|rfl|(simp only[Int.natCast_add,Int.natCast_one];rfl)|simp only[Int.natCast_add,Int.natCast_one])⟩
  ·have hd:decide ((i:Int)<(p.length:Nat))=false:=decide_eq_false (by omega)
   rw[if_neg (fun h=>hil h.1),List.append_nil]
   refine xCDg (fun h=>?_) (fun h=>?_)
   ·exfalso;first|(simp at h;done)|cases h
   ·(try simp only[ctlB])
    exact⟨hx1,_,b,⟨hb,ho⟩,exZDe (by first|rfl|(simp only[Int.natCast_add,Int.natCast_one];rfl)|simp only[Int.natCast_add,Int.natCast_one])⟩
 clear hx1 ho hb hl1
 rintro S' H1 ⟨hx1,w,b,⟨hb,ho⟩,z,rfl⟩
 have hl1:=hx1.1
 (try simp only[ctlB])
 refine aw_midX (fun S' H'=>Ext H H'∧∃w b,(H.length≤b∧OwnG lo 9 H' w b (cat rsC (pairR p i++lowR p i++highR p i)))∧∃(z:Nat→Value),S'=[.slice ad p.length c,encN i,z 2,w,z 4,z 5,z 6,z 7,z 8,z 9,z 10,z 11,z 12,z 13,z 14,z 15,z 16,z 17,z 18,z 19,z 20,z 21,z 22,z 23,z 24,z 25,z 26,z 27,z 28]) ?_ ?_
 ·have hP:highR p i=if i<p.length∧128≤(p.getD i 0).toNat then[⟨235,((p.getD i 0).toNat-127:Nat),-1,2,asR (i+1)⟩] else[]:=rfl
  rw[hP]
  clear hP
  by_cases hil:i<p.length
  ·have hd:decide ((i:Int)<(p.length:Nat))=true:=decide_eq_true (by omega)
   obtain⟨bb,oo,xs,hia,hgx,hxx⟩:=sl_at (hv.mono hx1) hil
   have hby:=(p.getD i 0).toNat_lt
   replace hxx:xs[oo]?=some (.int .u8 ((p.getD i 0).toNat:Nat)):=hxx
   generalize (p.getD i 0).toNat=y at hxx hby ⊢
   by_cases hc:128≤y
   ·have hd2:decide ((y:Int)≥128)=true:=decide_eq_true (by omega)
    have hd3:decide ((128:Int)≤(y:Nat))=true:=decide_eq_true (by omega)
    have e1:(y:Int)-127=((y-127:Nat):Int):=by omega
    rw[if_pos ⟨hil,hc⟩]
    refine xCDg (fun h=>?_) (fun h=>?_)
    ·clear h hd hd2 hd3
     (try simp only[ctlB])
     repeat' ((first|refine xSDg ?_|refine xODg rfl ?_);(try simp only[ctlB]))
     change wpS cp lo _ _ _ (H1++[some (rsC ⟨235,(y-127:Nat),-1,2,asR (i+1)⟩)])
     refine xHDg ?_
     refine stApp (o:=⟨235,(y-127:Nat),-1,2,asR (i+1)⟩) ho (by omega) (by simp;omega) ?_
     intro w3 H3 hap
     have hx3:=hap.ext hx1 hb
     obtain⟨b3,k1,k2,k3,k4⟩:=hap
     (try simp only[ctlB])
     repeat' ((first|refine xSDg ?_|refine xODg rfl ?_);(try simp only[ctlB]))
     exact⟨hx3,w3,b3,⟨by omega,k3⟩,exZDe (by first|rfl|(simp only[Int.natCast_add,Int.natCast_one];rfl)|simp only[Int.natCast_add,Int.natCast_one])⟩
    ·exfalso;first|(simp at h;done)|cases h
   ·have hd2:decide ((y:Int)≥128)=false:=decide_eq_false (by omega)
    have hd3:decide ((128:Int)≤(y:Nat))=false:=decide_eq_false (by omega)
    rw[if_neg (fun h=>hc h.2),List.append_nil]
    refine xCDg (fun h=>?_) (fun h=>?_)
    ·exfalso;first|(simp at h;done)|cases h
    ·(try simp only[ctlB])
     exact⟨hx1,_,b,⟨hb,ho⟩,exZDe (by first|rfl|(simp only[Int.natCast_add,Int.natCast_one];rfl)|simp only[Int.natCast_add,Int.natCast_one])⟩
  ·have hd:decide ((i:Int)<(p.length:Nat))=false:=decide_eq_false (by omega)
   rw[if_neg (fun h=>hil h.1),List.append_nil]
   refine xCDg (fun h=>?_) (fun h=>?_)
   ·exfalso;first|(simp at h;done)|cases h
   ·(try simp only[ctlB])
    exact⟨hx1,_,b,⟨hb,ho⟩,exZDe (by first|rfl|(simp only[Int.natCast_add,Int.natCast_one];rfl)|simp only[Int.natCast_add,Int.natCast_one])⟩
 clear hx1 ho hb hl1
 rintro S' H1 ⟨hx1,w,b,⟨hb,ho⟩,z,rfl⟩
 have hl1:=hx1.1
 have hLl:(pairR p i++lowR p i++highR p i).length≤3:=by simp;omega
 unfold startsR
 generalize pairR p i++lowR p i++highR p i=L at ho hLl ⊢
 clear p1 p2 p3
 (try simp only[ctlB])
 repeat' ((first|refine xSDg ?_|refine xODg rfl ?_);(try simp only[ctlB]))
 have hxc:Ext H1 (H1++[some [encN 0,encN 230,encN 239,encN 238,encN 240]]):=Ext.app _ _
 have hgc:(H1++[some [encN 0,encN 230,encN 239,encN 238,encN 240]]).get H1.length=some [encN 0,encN 230,encN 239,encN 238,encN 240]:=get_app0
 change wpS cp lo _ _ _ (H1++[some [encN 0,encN 230,encN 239,encN 238,encN 240]])
 generalize H1++[some [encN 0,encN 230,encN 239,encN 238,encN 240]]=H2 at hxc hgc
 obtain⟨X,hX,hXi⟩:∃X:List Value,(H2.get H1.length=some X∧X.length=5)∧(False∨∀j,j<4→X[j+1]?=some (encN (latW (j+1)))):=⟨_,⟨hgc,rfl⟩,.inr (by
  intro j hj
  have:j=0∨j=1∨j=2∨j=3:=by omega
  rcases this with rfl|rfl|rfl|rfl<;>rfl)⟩
 obtain⟨hgX,hX5⟩:=hX
 clear hgc
 replace hX5:X.length≤5∧5≤X.length:=by omega
 have hl2:=hxc.1
 have hgl:=Heap.get_lt hgX
 obtain⟨b',⟨hb',hbne⟩,ho'⟩:=ho.away hb (Nat.le_refl _) (by omega) (by omega)
 have ho2:=ho'.mono hxc
 have hx2:=hx1.trans hxc
 clear ho ho' hb
 (try simp only[ctlB])
 repeat' ((first|refine xSDg ?_|refine xODg rfl ?_);(try simp only[ctlB]))
 refine aw_midXB (fun S' H'=>Ext H H'∧∃w b,(H.length≤b∧OwnG lo 9 H' w b (cat rsC (L++latR i 4)))∧∃(z:Nat→Value),S'=[.slice ad p.length c,encN i,z 2,w,z 4,z 5,z 6,z 7,z 8,z 9,z 10,z 11,z 12,z 13,z 14,z 15,z 16,z 17,z 18,z 19,z 20,z 21,z 22,z 23,z 24,z 25,z 26,z 27,z 28]) ?_ ?_
 ·refine aw_for (fun k S H'=>(Ext H H'∧H'.get H1.length=some X)∧∃w b,((H.length≤b∧b≠H1.length)∧OwnG lo 9 H' w b (cat rsC (L++latR i k)))∧∃(z:Nat→Value),S=[.slice ad p.length c,encN i,z 2,w,.slice (some ⟨H1.length,0,none⟩) 5 5,.int .i64 ((k+1:Nat):Int),z 6,z 7,z 8,z 9,z 10,z 11,z 12,z 13,z 14,z 15,z 16,z 17,z 18,z 19,z 20,z 21,z 22,z 23,z 24,z 25,z 26,z 27,z 28]) 4 ⟨⟨hx2,hgX⟩,w,b',⟨⟨hb',hbne⟩,by simpa[latR]using ho2⟩,exZDe rfl⟩ ?_ ?_ ?_
  ·rintro k S H' hk ⟨_,w,b,_,z,rfl⟩
   exact⟨decide (((k+1:Nat):Int)≤4),by simp(disch:=first|omega|(simp only[lenB];omega))only[evB,xBDc,Nat.reduceAdd,Nat.reduceBEq,Int.reduceToNat, *],by simp;omega⟩
  ·rintro k S H3 hk ⟨⟨hx3,hg3⟩,w,b,⟨⟨hb,hbn⟩,ho⟩,z,rfl⟩
   clear hgX ho2 hx2
   have hl3:=hx3.1
   have hat:=hXi.resolve_left id k hk
   have hll:(L++latR i k).length≤10:=by simp[latR];omega
   have hlw:=latW_le (k+1)
   rw[latR_succ,←List.append_assoc]
   generalize L++latR i k=L2 at ho hll ⊢
   generalize latW (k+1)=lw at hat hlw ⊢
   (try simp only[ctlB])
   repeat' ((first|refine xSDg ?_|refine xODg rfl ?_);(try simp only[ctlB]))
   change wpS cp lo _ _ _ (H3++[some (rsC ⟨lw,-1,-1,1,⟨i,k+1,0,0,false⟩⟩)])
   refine xHDg ?_
   refine stApp (o:=⟨lw,-1,-1,1,⟨i,k+1,0,0,false⟩⟩) ho (by omega) (by omega) ?_
   intro w4 H4 hap
   have hx4:=hap.ext hx3 hb
   obtain⟨b4,k1,k2,k3,k4⟩:=hap
   have hg4:=k4.get hg3 (fun e=>hbn e.symm)
   have hgl3:=Heap.get_lt hg3
   (try simp only[ctlB])
   repeat' ((first|refine xSDg ?_|refine xODg rfl ?_);(try simp only[ctlB]))
   exact⟨⟨hx4,hg4⟩,w4,b4,⟨by omega,k3⟩,exZDe (by first|rfl|(simp only[Int.natCast_add,Int.natCast_one];rfl)|simp only[Int.natCast_add,Int.natCast_one])⟩
  ·rintro S H3 ⟨⟨hx3,hg3⟩,w,b,⟨⟨hb,hbn⟩,ho⟩,z,rfl⟩
   (try simp only[ctlB])
   exact⟨hx3,w,b,⟨hb,ho⟩,exZDe rfl⟩
 clear hgX ho2 hx2 hXi hX5 hgl hl2 hxc
 rintro S' H2 ⟨hx2,w,b,⟨hb,ho⟩,z,rfl⟩
 have hl2:=hx2.1
 have hLl2:(L++latR i 4).length≤7:=by simp[latR];omega
 generalize L++latR i 4=L2 at ho hLl2 ⊢
 (try simp only[ctlB])
 repeat' ((first|refine xSDg ?_|refine xODg rfl ?_);(try simp only[ctlB]))
 refine aw_for (fun k S H'=>Ext H H'∧∃w b,(H.length≤b∧OwnG lo 9 H' w b (cat rsC (L2++runsR i k)))∧∃(z:Nat→Value),S=[.slice ad p.length c,encN i,z 2,w,z 4,z 5,.int .i64 ((k+1:Nat):Int),z 7,z 8,z 9,z 10,z 11,z 12,z 13,z 14,z 15,z 16,z 17,z 18,z 19,z 20,z 21,z 22,z 23,z 24,z 25,z 26,z 27,z 28]) (min 1749 (p.length-i)) ⟨hx2,w,b,⟨hb,by simpa[runsR]using ho⟩,exZDe rfl⟩ ?_ ?_ ?_
 ·rintro k S H' hk ⟨_,w,b,_,z,rfl⟩
  refine⟨decide (k<min 1749 (p.length-i)),?_,by simp⟩
  by_cases h1:k+1≤1749
  ·have hd1:decide (((k+1:Nat):Int)≤1749)=true:=decide_eq_true (by omega)
   by_cases h2:i+(k+1)≤p.length
   ·rw[decide_eq_true (by omega)]
    have hd2:decide ((i:Int)+((k+1:Nat):Int)≤(p.length:Nat))=true:=decide_eq_true (by omega)
    simp(disch:=first|omega|(simp only[lenB];omega))only[evB,xBDc,Nat.reduceAdd,Nat.reduceBEq,Int.reduceToNat, *]
   ·rw[decide_eq_false (by omega)]
    have hd2:decide ((i:Int)+((k+1:Nat):Int)≤(p.length:Nat))=false:=decide_eq_false (by omega)
    simp(disch:=first|omega|(simp only[lenB];omega))only[evB,xBDc,Nat.reduceAdd,Nat.reduceBEq,Int.reduceToNat, *]
  ·rw[decide_eq_false (by omega)]
   have hd1:decide (((k+1:Nat):Int)≤1749)=false:=decide_eq_false (by omega)
   simp(disch:=first|omega|(simp only[lenB];omega))only[evB,xBDc,Nat.reduceAdd,Nat.reduceBEq,Int.reduceToNat, *]
 ·rintro k S H3 hk ⟨hx3,w,b,⟨hb,ho⟩,z,rfl⟩
  clear hx2
  have hl3:=hx3.1
  have hk1:k+1≤p.length-i:=by omega
  have hk2:k+1≤1749:=by omega
  clear hk
  have hll:(L2++runsR i k).length≤2000:=by simp[runsR];omega
  rw[runsR_succ,←List.append_assoc]
  generalize L2++runsR i k=L3 at ho hll ⊢
  have hrun:False∨runR i (k+1)=if k+1<250 then⟨231,((k+1:Nat):Nat),-1,2+(k+1),asR (i+(k+1))⟩ else⟨231,((k+1)/250+249:Nat),((k+1)%250:Nat),3+(k+1),asR (i+(k+1))⟩:=.inr rfl
  generalize runR i (k+1)=st at hrun ⊢
  (try simp only[ctlB])
  repeat' ((first|refine xSDg ?_|refine xODg rfl ?_);(try simp only[ctlB]))
  change wpS cp lo _ _ _ (H3++[some [encN 231,encN (k+1),.int .i64 (-1),encN (2+(k+1)),encN (i+(k+1)),encN 0,encN 0,encN 0,.bool false]])
  have hxd:Ext H3 (H3++[some [encN 231,encN (k+1),.int .i64 (-1),encN (2+(k+1)),encN (i+(k+1)),encN 0,encN 0,encN 0,.bool false]]):=Ext.app _ _
  have hgd:(H3++[some [encN 231,encN (k+1),.int .i64 (-1),encN (2+(k+1)),encN (i+(k+1)),encN 0,encN 0,encN 0,.bool false]]).get H3.length=some [encN 231,encN (k+1),.int .i64 (-1),encN (2+(k+1)),encN (i+(k+1)),encN 0,encN 0,encN 0,.bool false]:=get_app0
  generalize H3++[some [encN 231,encN (k+1),.int .i64 (-1),encN (2+(k+1)),encN (i+(k+1)),encN 0,encN 0,encN 0,.bool false]]=H4 at hxd hgd
  have hgl4:=Heap.get_lt hgd
  refine aw_midX (fun S' H'=>(Keep H3.length H4 H'∧H'.get H3.length=some (rsC st))∧∃(z:Nat→Value),S'=[.slice ad p.length c,encN i,z 2,w,z 4,z 5,.int .i64 ((k+1:Nat):Int),ptr H3.length,z 8,z 9,z 10,z 11,z 12,z 13,z 14,z 15,z 16,z 17,z 18,z 19,z 20,z 21,z 22,z 23,z 24,z 25,z 26,z 27,z 28]) ?_ ?_
  ·by_cases h250:k+1<250
   ·have hdd:decide (((k+1:Nat):Int)≥250)=false:=decide_eq_false (by omega)
    have hr:=hrun.resolve_left id
    rw[if_pos h250]at hr
    subst hr
    clear hrun
    refine xCDg (fun h=>?_) (fun h=>?_)
    ·exfalso;simp at h
    ·clear h hdd
     (try simp only[ctlB])
     exact⟨⟨Ext.keep (Ext.refl _),hgd⟩,exZDe (by first|rfl|(simp only[Int.natCast_add,Int.natCast_one];rfl)|simp only[Int.natCast_add,Int.natCast_one])⟩
   ·have hdd:decide (((k+1:Nat):Int)≥250)=true:=decide_eq_true (by omega)
    have hr:=hrun.resolve_left id
    rw[if_neg h250]at hr
    clear hrun
    have eq1:((k+1:Nat):Int).tdiv 250=(((k+1)/250:Nat):Int):=by rw[Int.tdiv_eq_ediv_of_nonneg (by omega)];omega
    have eq2:((k+1:Nat):Int).tmod 250=(((k+1)%250:Nat):Int):=by rw[Int.tmod_eq_emod_of_nonneg (by omega)];omega
    have hq1:(k+1)/250≤10:=by omega
    have hq2:(k+1)%250<250:=by omega
    generalize (k+1)/250=q1 at eq1 hq1 hr
    generalize (k+1)%250=q2 at eq2 hq2 hr
    subst hr
    refine xCDg (fun h=>?_) (fun h=>?_)
    ·clear h hdd
     (try simp only[ctlB])
     repeat' ((first|refine xSDg ?_|refine xODg rfl ?_);(try simp only[ctlB]))
     exact⟨⟨keepTrans (keepTrans keepSet (.inl rfl) keepSet) (.inl rfl) keepSet,get_set_self (by simp;omega)⟩,exZDe (by first|rfl|(simp only[Int.natCast_add,Int.natCast_one];rfl)|simp only[Int.natCast_add,Int.natCast_one])⟩
    ·exfalso;simp at h
  rintro S' H5 ⟨⟨hk5,hg5⟩,z,rfl⟩
  have ho5:=ho.over hxd hk5 (Nat.le_refl _)
  have hx5:=hk5.ext (hx3.trans hxd) hl3
  have hl5:=hk5.len
  have hl4:=hxd.1
  clear hrun hgd
  (try simp only[ctlB])
  repeat' ((first|refine xSDg ?_|refine xODg rfl ?_);(try simp only[ctlB]))
  change wpS cp lo _ _ _ (H5++[some (rsC st)])
  refine xHDg ?_
  refine stApp (o:=st) ho5 (by omega) (by omega) ?_
  intro w6 H6 hap
  have hx6:=hap.ext hx5 hb
  obtain⟨b6,k1,k2,k3,k4⟩:=hap
  (try simp only[ctlB])
  repeat' ((first|refine xSDg ?_|refine xODg rfl ?_);(try simp only[ctlB]))
  exact⟨hx6,w6,b6,⟨by omega,k3⟩,exZDe (by first|rfl|(simp only[Int.natCast_add,Int.natCast_one];rfl)|simp only[Int.natCast_add,Int.natCast_one])⟩
 ·rintro S H3 ⟨hx3,w,b,⟨hb,ho⟩,z,rfl⟩
  (try simp only[ctlB])
  repeat' ((first|refine xSDg ?_|refine xODg rfl ?_);(try simp only[ctlB]))
  refine xRDg ?_
  exact⟨hx3,b,hb,ho⟩
end
end Go.Proofs.Ythnflhimcmdnbaa
