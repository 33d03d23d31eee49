/- Dmtext: ways in a part of a payload; two payloads one after the other. Dmtext: the law Joins. -/
import Derived.Test.YthnflhimcmdnbaaT21
set_option linter.unusedVariables false
set_option linter.unusedSimpArgs false
set_option linter.unusedSectionVars false
namespace Go.Proofs.Ythnflhimcmdnbaa
open Go.Abs
set_option linter.unusedSimpArgs false
set_option linter.unusedVariables false
set_option maxRecDepth 20000
structure Win (p r:List UInt8)(d:Nat):Prop where
 le:d+p.length≤r.length
 eq:∀i,i<p.length→by' r (d+i)=by' p i
def shM(d:Nat)(m:Mv):Mv:=⟨m.v,d+m.a,m.s,m.u⟩
def shO(d:Nat)(o:Opt):Opt:=⟨o.h0,o.h1,o.h2,o.sz,o.run,d+o.nx,o.md⟩
section
variable {p r:List UInt8}{d:Nat}
theorem win_mov(w:Win p r d){a s:Nat}{u l:Bool}{m:Mv}(h:m ∈ movS p a s u l):shM d m ∈ movS r (d+a) s u l:=by
 unfold movS at h ⊢
 rw[List.mem_append,List.mem_append]at h ⊢
 rcases h with (h|h)|h
 ·refine .inl (.inl ?_)
  unfold mvA at h ⊢
  split at h
  ·rename_i hs
   rw[if_pos hs]
   unfold mv3 at h ⊢
   obtain⟨i,hi,rfl⟩:=List.mem_map.1 h
   exact List.mem_map.2 ⟨i,hi,rfl⟩
  ·cases h
 ·refine .inl (.inr ?_)
  unfold mvB at h ⊢
  split at h
  ·rename_i hc
   obtain⟨h1,h2,h3⟩:=hc
   rw[←w.eq a h1]at h2 h3 h
   have:=w.le
   rw[if_pos ⟨by omega,h2,h3⟩]
   obtain rfl:=List.mem_singleton.1 h
   simp[shM,Nat.add_assoc]
  ·cases h
 ·refine .inr ?_
  unfold mvD at h ⊢
  split at h
  ·rename_i hc
   rw[if_pos hc]
   obtain rfl:=List.mem_singleton.1 h
   simp[shM]
  ·cases h
theorem win_trip(w:Win p r d){a st first:Nat}{l:Bool}{o:Opt}(h:o ∈ tripS p a st first l):shO d o ∈ tripS r (d+a) st first l:=by
 unfold tripS at h ⊢
 rcases List.mem_cons.1 h with rfl|h
 ·exact List.mem_cons.2 (.inl rfl)
 ·refine List.mem_cons.2 (.inr ?_)
  unfold tri1 tri2 tri3 at h ⊢
  obtain⟨u,hu,h⟩:=List.mem_flatMap.1 h
  obtain⟨v,hv,h⟩:=List.mem_flatMap.1 h
  obtain⟨x,hx,rfl⟩:=List.mem_map.1 h
  exact List.mem_flatMap.2 ⟨_,win_mov w hu,List.mem_flatMap.2 ⟨_,win_mov w hv,List.mem_map.2 ⟨_,win_mov w hx,rfl⟩⟩⟩
theorem win_edi(w:Win p r d){a:Nat}:∀(k n g:Nat) {o:Opt},o ∈ ediR p a k n g→shO d o ∈ ediR r (d+a) k n g
 | 0,n,g,o,h=>by
  simp only[ediR]at h ⊢
  obtain rfl:=List.mem_singleton.1 h
  simp[shO,bitO,Nat.add_assoc]
 | k+1,n,g,o,h=>by
  simp only[ediR]at h ⊢
  rcases List.mem_cons.1 h with rfl|h
  ·refine List.mem_cons.2 (.inl ?_)
   simp[shO,bitO,Nat.add_assoc]
  ·refine List.mem_cons.2 (.inr ?_)
   split at h
   ·rename_i hc
    have e:=w.eq (a+n) hc.1
    have:=w.le
    rw[Nat.add_assoc,if_pos ⟨by omega,by rw[e];exact hc.2.1,by rw[e];exact hc.2.2⟩,e]
    exact win_edi w k (n+1) _ h
   ·cases h
theorem win_x12(w:Win p r d){a:Nat}{o:Opt}(h:o ∈ x12O p a):shO d o ∈ x12O r (d+a):=by
 unfold x12O at h ⊢
 rcases List.mem_cons.1 h with rfl|h
 ·exact List.mem_cons.2 (.inl rfl)
 ·refine List.mem_cons.2 (.inr ?_)
  split at h
  ·rename_i hc
   obtain⟨h1,h2⟩:=hc
   have e0:=w.eq a (by omega)
   have e1:=w.eq (a+1) (by omega)
   have e2:=w.eq (a+2) (by omega)
   rw[←Nat.add_assoc]at e1 e2
   have:=w.le
   rw[e0,e1,e2,if_pos ⟨by omega,h2⟩]
   obtain rfl:=List.mem_singleton.1 h
   simp[shO,triO,Nat.add_assoc]
  ·cases h
theorem win_asc(w:Win p r d){a:Nat}{o:Opt}(h:o ∈ ascA p a):shO d o ∈ ascA r (d+a):=by
 have hle:=w.le
 unfold ascA at h ⊢
 rcases List.mem_append.1 h with h|h
 ·refine List.mem_append_left _ ?_
  simp only[lats,List.mem_cons,List.not_mem_nil,or_false]at h ⊢
  rcases h with rfl|rfl|rfl|rfl
  ·exact .inl rfl
  ·exact .inr (.inl rfl)
  ·exact .inr (.inr (.inl rfl))
  ·exact .inr (.inr (.inr rfl))
 ·refine List.mem_append_right _ ?_
  split at h
  ·rename_i ha
   rw[if_pos (by omega)]
   have e0:=w.eq a ha
   rcases List.mem_append.1 h with h|h
   ·rcases List.mem_append.1 h with h|h
    ·refine List.mem_append_left _ (List.mem_append_left _ ?_)
     obtain rfl:=List.mem_singleton.1 h
     rw[e0]
     refine List.mem_singleton.2 ?_
     unfold byteO
     split<;>simp[shO,Nat.add_assoc]
    ·refine List.mem_append_left _ (List.mem_append_right _ ?_)
     unfold pairO at h ⊢
     split at h
     ·rename_i hc
      obtain⟨h1,h2,h3⟩:=hc
      have e1:=w.eq (a+1) (by omega)
      rw[←Nat.add_assoc]at e1
      rw[e0,e1,if_pos ⟨by omega,h2,h3⟩]
      obtain rfl:=List.mem_singleton.1 h
      simp[shO,Nat.add_assoc]
     ·cases h
   ·refine List.mem_append_right _ ?_
    obtain⟨n,h1,h2,h3,rfl⟩:=binA_mem.1 h
    refine binA_mem.2 ⟨n,h1,h2,by omega,?_⟩
    unfold binO
    split<;>simp[shO,Nat.add_assoc]
  ·cases h
theorem win_opt(w:Win p r d){a st:Nat}{o:Opt}(h:o ∈ optA p a st):shO d o ∈ optA r (d+a) st:=by
 unfold optA at h ⊢
 split at h
 ·rename_i hs;rw[if_pos hs];exact win_asc w h
 ·rename_i hs
  rw[if_neg hs]
  split at h
  ·rename_i hs;rw[if_pos hs];exact win_trip w h
  ·rename_i hs
   rw[if_neg hs]
   split at h
   ·rename_i hs;rw[if_pos hs];exact win_trip w h
   ·rename_i hs
    rw[if_neg hs]
    split at h
    ·rename_i hs;rw[if_pos hs];exact win_x12 w h
    ·rename_i hs;rw[if_neg hs];exact win_edi w 4 0 0 h
theorem win_path(w:Win p r d){a st m k:Nat}(h:Pth p a st m)(hk:Pth r (d+p.length) 0 k):Pth r (d+a) st (m+k):=by
 induction h with
 | nil=>rw[Nat.zero_add];exact hk
 | @cons a st m o ha hst ho _ ih=>
  have hle:=w.le
  have:=Pth.cons (o:=shO d o) (show d+a≤r.length by omega) hst (win_opt w ho) ih
  rw[show o.sz+o.run+m+k=o.sz+o.run+(m+k) by omega]
  exact this
end
theorem by_app1{p q:List UInt8}{i:Nat}(h:i<p.length):by' (p++q) i=by' p i:=by
 unfold by';simp[List.getD_eq_getElem?_getD,List.getElem?_append_left h]
theorem by_app2{p q:List UInt8}{i:Nat}:by' (p++q) (p.length+i)=by' q i:=by
 unfold by';simp[List.getD_eq_getElem?_getD,List.getElem?_append_right]
theorem cost_lt{p:List UInt8}{c:List Nat}(h:Sol p c)(hp:p.length≤4096):cst c 0 0<1073741824:=by
 have:=cost_asc h p.length 0 (by omega)
 omega
theorem cost_pth{p:List UInt8}{c:List Nat}(h:Sol p c)(hp:p.length≤4096):Pth p 0 0 (cst c 0 0):=cost_path h _ (Nat.zero_le _) (by omega) rfl (cost_lt h hp)
theorem cost_join{p q:List UInt8}{c d e:List Nat}(hc:Sol p c)(hd:Sol q d)(he:Sol (p++q) e)(hp:p.length≤4096)(hq:q.length≤4096):cst e 0 0≤cst c 0 0+cst d 0 0:=by
 have w2:Win q (p++q) p.length:=⟨by simp,fun i _=>by_app2⟩
 have w1:Win p (p++q) 0:=⟨by simp,fun i hi=>by rw[Nat.zero_add];exact by_app1 hi⟩
 have hn:Pth (p++q) (p.length+q.length) 0 0:=by
  have:=Pth.nil (p:=p++q)
  rwa [List.length_append]at this
 have h2:=win_path w2 (cost_pth hd hq) hn
 have h1:=win_path w1 (cost_pth hc hp) (by rw[Nat.zero_add];exact h2)
 exact cost_le he h1
end Go.Proofs.Ythnflhimcmdnbaa
namespace Go.Proofs.Ythnflhimcmdnbaa
open Go.Abs
set_option linter.unusedSimpArgs false
set_option linter.unusedVariables false
set_option maxRecDepth 20000
def Zu(lo:Nat)(H:Heap)(v:Value)(b:Nat)(l:List UInt8):Prop:=Own lo 1 H v b (uU l)∨(lo≤b∧l=[]∧v=.slice (some ⟨b,0,none⟩) 0 0∧H.get b=some [])
theorem Zu.sl{lo:Nat}{H:Heap}{v:Value}{b:Nat}{l:List UInt8}(h:Zu lo H v b l):SlU H v l:=by
 rcases h with h|⟨_,rfl,rfl,h⟩
 ·exact Sl.ofOwn h
 ·exact .inr ⟨b,0,none,0,[],rfl,h,rfl,by simp,.inl rfl,Nat.le_refl _⟩
theorem app0{lo:Nat}{H:Heap}{v:Value}{b:Nat}{l:List UInt8}(h:Zu lo H v b l):appendSem lo 1 v [] 0 H=some (v,H):=by
 have hput:∀{c:List Value} {o:Nat},H.get b=some c→lo≤b→o≤c.length→H.put lo b o []=some H:=by
  intro c o hg hb ho
  unfold Heap.put
  rw[hg]
  simp only[List.length_nil,Nat.add_zero]
  rw[if_pos ⟨hb,ho⟩]
  have:putCells c o []=c:=by unfold putCells;simp
  rw[this,set_get_self hg]
 rcases h with ⟨hb,⟨rfl,_⟩|⟨n,h1,h2,rfl,h3⟩⟩|⟨hb,rfl,rfl,h3⟩
 ·rfl
 ·simp only[appendSem,Nat.add_zero,Nat.le_refl,if_true,Nat.zero_add]
  rw[hput h3 hb (by omega)]
  simp
 ·simp only[appendSem,Nat.add_zero,Nat.le_refl,if_true,Nat.zero_add,true_or]
  rw[hput h3 hb (by simp)]
  rfl
theorem appZ{cp:FuncId→Option CF}{lo:Nat}{z:List Value}{G H:Heap}{v u:Value}{b:Nat}{l q:List UInt8}{R:Value→Heap→Prop}(h:Zu lo H v b l)(hx:Ext G H)(hb:G.length≤b)(hlo:lo≤H.length)(hu:SlU G u q)(hbig:l.length+q.length≤100000)
  (k:∀v' H' b',Zu lo H' v' b' (l++q)→Ext G H'→G.length≤b'→R v' H'):wpH cp lo (.app 1 z) [v,u] H R:=by
 have hl:=hx.1
 by_cases hq0:q.length=0
 ·have hq:q=[]:=List.length_eq_zero_iff.1 hq0
  subst hq
  have key:wpH cp lo (.app 1 z) [v,u] H R↔R v H:=by
   rcases hu.mono hx with ⟨rfl,_⟩|⟨b2,o,sp,cap,xs,rfl,h1,h2,h3,h4⟩
   ·simp only[wpH,hsem0,hsem,if_true,app0 h]
   ·have e1:H.cells b2 o (0*1)=some []:=by rw[cells_get h1 (by simpa using h3)];simp
    simp only[wpH,hsem0,hsem,List.length_nil,e1,Option.bind_some,app0 h]
    rfl
  exact key.2 (k v H b (by simpa using h) hx hb)
 ·rcases hu with ⟨rfl,hq⟩|⟨b2,o,sp,cap,xs,rfl,h1,h2,h3,h4⟩
  ·rw[hq]at hq0;exact absurd rfl hq0
  ·have hg2:=hx.get h1
   rcases h with h|⟨hbl,rfl,rfl,hgb⟩
   ·refine wpH_app h hlo (by omega) (by omega) (by simp;omega) hg2 (c:=uU q) (by omega) (by rw[Nat.mul_one];exact h2) (oneU q) ?_
    intro v' H' ho hk hl'
    exact k v' H' H.length (.inl (by simpa[uU]using ho)) (hk.ext hx hb) hl
   ·have e1:H.cells b2 o (q.length*1)=some (uU q):=by rw[Nat.mul_one,cells_get hg2 (by omega),h2]
    have e2:H.cells b 0 (0*1)=some []:=by rw[cells_get hgb (by simp)];simp
    simp only[wpH,hsem0,hsem,e1,Option.bind_some,oneU,if_true,appendSem,Nat.zero_add]
    rw[if_neg (by omega),if_neg (by show ¬ mostNeed<_;unfold mostNeed;simp at hbig;omega),e2]
    simp only[Option.map_some,List.nil_append]
    refine k _ _ H.length (.inl ⟨hlo,.inr ⟨q.length,by omega,by simp,rfl,get_app0⟩⟩) (hx.trans (Ext.app _ _)) hl
section
variable {lo:Nat}{H:Heap}{v:Value}
theorem lawJoins{v w:Value}{p q:List UInt8}(hv:SlU H v p)(hw:SlU H w q)(hlo:lo≤H.length):Ev cp lo 7 [v,w] H (fun r _=>r=.bool true):=by
 obtain⟨ad,c,ev⟩:=hv.len
 obtain⟨ad2,c2,ew⟩:=hw.len
 have hv0:=hv
 have hw0:=hw
 rw[ev]at hv ⊢
 rw[ew]at hw ⊢
 refine st7 ?_;unfold bd7 cf7;simp only[kB,ctlB]
 repeat' ((first|refine xSDg ?_|refine xODg rfl ?_);(try simp only[ctlB]))
 by_cases hb:150<p.length∨150<q.length
 ·have hd:(decide ((p.length:Int)>150) || decide ((q.length:Int)>150))=true:=by
   simp only[Bool.or_eq_true,decide_eq_true_eq];omega
  refine xCDg (fun h=>?_) (fun h=>?_)
  ·clear h
   (try simp only[ctlB])
   refine xHDg ?_
   refine wpH_call0 (alive hlo) ?_
   rintro r H1 ⟨hx,rfl⟩
   (try simp only[ctlB])
   repeat' ((first|refine xSDg ?_|refine xODg rfl ?_);(try simp only[ctlB]))
   refine xRDg ?_
   rfl
  ·exfalso;first|(rw[hd]at h;cases h)|cases h
 have hd:(decide ((p.length:Int)>150) || decide ((q.length:Int)>150))=false:=by
  simp only[Bool.or_eq_false_iff,decide_eq_false_iff_not];omega
 refine xCDg (fun h=>?_) (fun h=>?_)
 ·exfalso;first|(rw[hd]at h;cases h)|cases h
 clear h hd
 have hp3:p.length≤150:=by omega
 have hq3:q.length≤150:=by omega
 (try simp only[ctlB])
 refine xHDg ?_
 refine wpH_call0 (lngP hv (by omega) hlo) ?_
 rintro r H1 ⟨hx1,c1,hn1,rfl⟩
 have hl1:=hx1.1
 (try simp only[ctlB])
 repeat' ((first|refine xSDg ?_|refine xODg rfl ?_);(try simp only[ctlB]))
 refine xHDg ?_
 refine wpH_call0 (lngP (hw.mono hx1) (by omega) (by omega)) ?_
 rintro r H2 ⟨hx2,c3,hn2,rfl⟩
 have hx12:=hx1.trans hx2
 have hl2:=hx12.1
 have hc1:=cost_asc (new_sol hn1) p.length 0 (by omega)
 have hc2:=cost_asc (new_sol hn2) q.length 0 (by omega)
 replace hn1:False∨_:=.inr hn1
 replace hn2:False∨_:=.inr hn2
 (try simp only[ctlB])
 repeat' ((first|refine xSDg ?_|refine xODg rfl ?_);(try simp only[ctlB]))
 have hxb:Ext H2 (H2++[some []]):=Ext.app _ _
 have hz:Zu lo (H2++[some []]) (.slice (some ⟨H2.length,0,none⟩) 0 0) H2.length []:=.inr ⟨by omega,rfl,rfl,get_app0⟩
 generalize H2++[some []]=H3 at hxb hz
 have hx3:=hx12.trans hxb
 have hl3:=hx3.1
 clear hv0 hw0
 refine xHDg ?_
 refine appZ hz hx3 (by omega) (by omega) hv (by simp;omega) ?_
 intro v1 H4 b4 hz4 hx4 hb4
 have hl4:=hx4.1
 (try simp only[ctlB])
 refine xHDg ?_
 refine appZ hz4 hx4 hb4 (by omega) hw (by simp;omega) ?_
 intro v2 H5 b5 hz5 hx5 hb5
 rw[List.nil_append]at hz5
 have hl5:=hx5.1
 clear hz hz4
 (try simp only[ctlB])
 refine xHDg ?_
 refine wpH_call0 (lngP hz5.sl (by simp;omega) (by omega)) ?_
 rintro r H6 ⟨hx6,c5,hn5,rfl⟩
 have hc5:=cost_asc (new_sol hn5) (p++q).length 0 (by omega)
 have hj:=cost_join (new_sol (hn1.resolve_left id)) (new_sol (hn2.resolve_left id)) (new_sol hn5) (by omega) (by omega)
 have hl6:=hx6.1
 clear hz5 hn5 hn1 hn2
 generalize cst c1 0 0=n1 at hc1 hj ⊢
 generalize cst c3 0 0=n2 at hc2 hj ⊢
 generalize cst c5 0 0=n3 at hc5 hj ⊢
 have hdn:decide ((n3:Int)≤(n1:Nat)+(n2:Nat))=true:=decide_eq_true (by omega)
 rw[List.length_append]at hc5
 (try simp only[ctlB])
 repeat' ((first|refine xSDg ?_|refine xODg rfl ?_);(try simp only[ctlB]))
 refine aw_hv_if (t:=true) (xEDg) (by simp(disch:=first|omega|(simp only[lenB];omega))only[evB,xBDc,Nat.reduceAdd,Nat.reduceBEq,Int.reduceToNat, *]) (by simp(disch:=first|omega|(simp only[lenB];omega))only[evB,xBDc,Nat.reduceAdd,Nat.reduceBEq,Int.reduceToNat, *];try rfl) (fun _=>⟨_,xEDg,?_⟩) (fun h=>by cases h)
 refine wpH_call0 (alive (by omega)) ?_
 rintro r H7 ⟨hx,rfl⟩
 (try simp only[ctlB])
 repeat' ((first|refine xSDg ?_|refine xODg rfl ?_);(try simp only[ctlB]))
 refine xRDg ?_
 rfl
end
end Go.Proofs.Ythnflhimcmdnbaa
