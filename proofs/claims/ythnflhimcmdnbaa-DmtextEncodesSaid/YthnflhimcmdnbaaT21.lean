/- Dmtext: paths through the options; the costs are their least lengths. Dmtext: the examples' payloads: their costs and codewords. Dmtext: the examples that each law asks. What every law of this seat needs of the program, and the arguments of the laws. -/
import Derived.Test.YthnflhimcmdnbaaT20
import Derived.Test.YthnflhimcmdnbaaRows
set_option linter.unusedVariables false
set_option linter.unusedSimpArgs false
set_option linter.unusedSectionVars false
namespace Go.Proofs.Ythnflhimcmdnbaa
open Go.Abs
set_option linter.unusedSimpArgs false
set_option linter.unusedVariables false
set_option maxRecDepth 20000
def binA(p:List UInt8)(a:Nat):List Opt:=(List.range (min (p.length-a) 1749)).map fun i=>binO a (i+1)
def ascA(p:List UInt8)(a:Nat):List Opt:=lats a++if a<p.length then[byteO (by' p a) a]++pairO p a++binA p a else[]
def optA(p:List UInt8)(a st:Nat):List Opt:=
 if st=0 then ascA p a else if st<9 then tripS p a (st-1) 1 false else if st<17 then tripS p a (st-9) 9 true else if st=17 then x12O p a else ediS p a
theorem binA_mem{p:List UInt8}{a:Nat}{o:Opt}:o ∈ binA p a↔∃n,1≤n∧n≤1749∧a+n≤p.length∧o=binO a n:=by
 unfold binA
 rw[List.mem_map]
 constructor
 ·rintro⟨i,hi,rfl⟩
  have:=List.mem_range.1 hi
  exact⟨i+1,by omega,by omega,by omega,rfl⟩
 ·rintro⟨n,h1,h2,h3,rfl⟩
  exact⟨n-1,List.mem_range.2 (by omega),by rw[show n-1+1=n by omega]⟩
theorem optS_sub{p:List UInt8}{c:List Nat}{a st:Nat}{o:Opt}(h:o ∈ optS p c a st):o ∈ optA p a st:=by
 unfold optS at h
 unfold optA
 split at h
 ·rename_i hs
  rw[if_pos hs]
  unfold ascS at h
  unfold ascA
  rcases List.mem_append.1 h with h|h
  ·exact List.mem_append_left _ h
  ·refine List.mem_append_right _ ?_
   split at h
   ·rename_i ha
    rw[if_pos ha]
    rcases List.mem_append.1 h with h|h
    ·exact List.mem_append_left _ h
    ·refine List.mem_append_right _ (binA_mem.2 ?_)
     obtain rfl:=List.mem_singleton.1 h
     obtain⟨k,h1,h2,h3⟩:=binB_ex (cs:=c) (at':=a) (min (p.length-a) 1749) (by omega)
     exact⟨k,h1,by omega,by omega,h3⟩
   ·cases h
 ·rename_i hs
  rw[if_neg hs]
  exact h
theorem binB_le{c:List Nat}{a:Nat}:∀{n k:Nat},1≤k→k≤n→totS c (binB c a n)≤totS c (binO a k)
 | 0,k,h1,h2=>by omega
 | n+1,k,h1,h2=>by
  rw[binB]
  split
  ·have:k=1:=by omega
   subst this;exact Nat.le_refl _
  ·split
   ·rename_i h
    by_cases hk:k=n+1
    ·subst hk;exact Nat.le_refl _
    ·have:=binB_le (c:=c) (a:=a) (n:=n) h1 (by omega);omega
   ·rename_i h
    by_cases hk:k=n+1
    ·subst hk;omega
    ·exact binB_le h1 (by omega)
theorem optA_best{p:List UInt8}(c:List Nat){a st:Nat}{o:Opt}(h:o ∈ optA p a st):∃o' ∈ optS p c a st,totS c o'≤totS c o:=by
 unfold optA at h
 unfold optS
 split at h
 ·rename_i hs
  rw[if_pos hs]
  unfold ascA at h
  unfold ascS
  rcases List.mem_append.1 h with h|h
  ·exact⟨o,List.mem_append_left _ h,Nat.le_refl _⟩
  ·split at h
   ·rename_i ha
    rw[if_pos ha]
    rcases List.mem_append.1 h with h|h
    ·exact⟨o,List.mem_append_right _ (List.mem_append_left _ h),Nat.le_refl _⟩
    ·obtain⟨n,h1,h2,h3,rfl⟩:=binA_mem.1 h
     exact⟨binS p c a,List.mem_append_right _ (by simp),binB_le h1 (by omega)⟩
   ·cases h
 ·rename_i hs
  rw[if_neg hs]
  exact⟨o,h,Nat.le_refl _⟩
theorem optA_ok{p:List UInt8}{a st:Nat}(ha:a≤p.length):∀o ∈ optA p a st,o.ok p.length a:=by
 intro o ho
 by_cases hs:st=0
 ·unfold optA ascA at ho
  rw[if_pos hs]at ho
  rcases List.mem_append.1 ho with h|h
  ·exact lats_ok ha o h
  ·split at h
   ·rename_i hap
    rcases List.mem_append.1 h with h|h
    ·have:o ∈ optS p [] a 0:=by unfold optS ascS;rw[if_pos rfl,if_pos hap];simp only[List.mem_append]at h ⊢;rcases h with h|h<;>simp[h]
     exact optS_ok ha o this
    ·obtain⟨n,h1,h2,h3,rfl⟩:=binA_mem.1 h
     exact binO_ok h1 h2 h3
   ·cases h
 ·have:o ∈ optS p [] a st:=by
   unfold optA at ho;unfold optS
   rw[if_neg hs]at ho ⊢
   exact ho
  exact optS_ok ha o this
inductive Pth (p:List UInt8):Nat→Nat→Nat→Prop
 | nil:Pth p p.length 0 0
 | cons {a st m:Nat} {o:Opt}:a≤p.length→st<19→o ∈ optA p a st→Pth p o.nx o.md m→Pth p a st (o.sz+o.run+m)
theorem cost_le{p:List UInt8}{c:List Nat}(hs:Sol p c){a st m:Nat}(h:Pth p a st m):cst c a st≤m:=by
 induction h with
 | nil=>
  have:=(hs.row p.length (Nat.le_refl _)).fin rfl
  show c.getD (p.length*19+0) 0≤0
  rw[Nat.add_zero,this]
  exact Nat.le_refl _
 | @cons a st m o ha hst ho _ ih=>
  obtain⟨o',ho',ht⟩:=optA_best c ho
  have h1:=(hs.row a ha).fix st hst o' ho'
  have h2:totS c o=o.sz+o.run+cst c o.nx o.md:=rfl
  show c.getD (a*19+st) 0≤_
  omega
theorem cost_path{p:List UInt8}{c:List Nat}(hs:Sol p c):∀(k:Nat) {a st:Nat},a≤p.length→st<19→cst c a st=k→k<1073741824→Pth p a st k:=by
 intro k
 induction k using Nat.strongRecOn with
 | ind k ih=>
  intro a st ha hst hc hk
  by_cases hn:st=0∧a=p.length
  ·obtain⟨rfl,rfl⟩:=hn
   have:=(hs.row p.length (Nat.le_refl _)).fin rfl
   have h0:cst c p.length 0=0:=by show c.getD (p.length*19+0) 0=0;rw[Nat.add_zero];exact this
   rw[h0]at hc
   subst hc
   exact .nil
  ·obtain⟨o,ho,ht⟩:=sol_opt hs ha hst (by omega) hn
   have hok:=optS_ok ha o ho
   have h2:totS c o=o.sz+o.run+cst c o.nx o.md:=rfl
   have hsz:=hok.sz
   have:=Pth.cons ha hst (optS_sub ho) (ih (cst c o.nx o.md) (by omega) hok.nx.2 hok.md rfl (by omega))
   rw[show k=o.sz+o.run+cst c o.nx o.md by omega]
   exact this
theorem sol_uniq{p:List UInt8}{c d:List Nat}(hc:Sol p c)(hd:Sol p d):c=d:=by
 have key:∀{c d:List Nat},Sol p c→Sol p d→∀a st,a≤p.length→st<19→cst d a st≤cst c a st:=by
  intro c d hc hd a st ha hst
  by_cases h:cst c a st<1073741824
  ·exact cost_le hd (cost_path hc _ ha hst rfl h)
  ·have:=hd.le (a*19+st)
   show d.getD (a*19+st) 0≤_
   omega
 refine List.ext_getElem (hc.len.trans hd.len.symm) fun i h1 h2=>?_
 have hi:=hc.len
 have ha:i/19≤p.length:=by omega
 have e:i/19*19+i%19=i:=by omega
 have k1:=key hc hd (i/19) (i%19) ha (by omega)
 have k2:=key hd hc (i/19) (i%19) ha (by omega)
 unfold cst at k1 k2
 rw[e]at k1 k2
 have g1:c.getD i 0=c[i]:=by simp[List.getD_eq_getElem?_getD,h1]
 have g2:d.getD i 0=d[i]:=by simp[List.getD_eq_getElem?_getD,h2]
 omega
def chkRow(p:List UInt8)(c:List Nat)(b:Nat):Bool:=(List.range 19).all fun k=>(optS p c b k).all (fun o=>decide (c.getD (b*19+k) 0≤totS c o)) &&
 (c.getD (b*19+k) 0==1073741824 || (b==p.length&&k==0&&c.getD (b*19+k) 0==0) || (optS p c b k).any (fun o=>c.getD (b*19+k) 0==totS c o))
def chkSol(p:List UInt8)(c:List Nat):Bool:=c.length==(p.length+1)*19&&c.all (fun x=>decide (x≤1073741824))&&c.getD (p.length*19) 0==0&&(List.range (p.length+1)).all (chkRow p c)
theorem chk_sol{p:List UInt8}{c:List Nat}(h:chkSol p c=true):Sol p c:=by
 unfold chkSol at h
 simp only[Bool.and_eq_true,beq_iff_eq]at h
 obtain⟨⟨⟨h1,h2⟩,h3⟩,h4⟩:=h
 refine⟨h1,fun j=>?_,fun b hb=>?_⟩
 ·by_cases hj:j<c.length
  ·have:=List.all_eq_true.1 h2 c[j] (List.getElem_mem hj)
   simp[List.getD_eq_getElem?_getD,hj]at this ⊢
   exact this
  ·rw[getD_ge (by omega)];omega
 ·have h5:=List.all_eq_true.1 h4 b (List.mem_range.2 (by omega))
  unfold chkRow at h5
  have h6:=fun k (hk:k<19)=>List.all_eq_true.1 h5 k (List.mem_range.2 hk)
  simp only[Bool.and_eq_true,Bool.or_eq_true,beq_iff_eq]at h6
  refine⟨fun k hk o ho=>?_,fun k hk=>?_,fun e=>by rw[e];exact h3⟩
  ·exact of_decide_eq_true (List.all_eq_true.1 (h6 k hk).1 o ho)
  ·rcases(h6 k hk).2 with (h|h)|h
   ·exact .inl h
   ·exact .inr (.inl ⟨h.1.1,h.1.2,h.2⟩)
   ·obtain⟨o,ho,e⟩:=List.any_eq_true.1 h
    exact .inr (.inr ⟨o,ho,by simpa using e⟩)
end Go.Proofs.Ythnflhimcmdnbaa
namespace Go.Proofs.Ythnflhimcmdnbaa
open Go.Abs
set_option linter.unusedSimpArgs false
set_option linter.unusedVariables false
set_option maxRecDepth 1000000
def exP1:List UInt8:=[49,50,51,52,53,54]
def exP2:List UInt8:=[65,73,77,65,73,77,65,73,77]
def exP3:List UInt8:=[65]
def exC1:List Nat:=
 [3,4,4,4,4,4,4,4,4,4,4,4,4,4,4,4,4,4,4,3,4,4,4,4,4,4,4,4,4,4,4,4,4,4,4,4,4,4,2,3,3,3,3,3,3,3,3,3,3,3,
 3,3,3,3,3,3,3,2,3,3,3,3,3,3,3,3,3,3,3,3,3,3,3,3,3,3,1,2,2,2,2,2,2,2,2,2,2,2,2,2,2,2,2,2,2,1,2,2,2,2,
 2,2,2,2,2,2,2,2,2,2,2,2,2,2,0,1,1,1,1,1,1,1,1,1,1,1,1,1,1,1,1,1,1]
def exC2:List Nat:=
 [8,7,9,9,9,9,9,9,9,9,9,9,9,9,9,9,9,7,8,8,7,9,9,9,9,9,9,9,9,9,9,9,9,9,9,9,7,7,7,6,8,8,8,8,8,8,8,8,8,8,
 8,8,8,8,8,6,6,6,5,7,7,7,7,7,7,7,7,7,7,7,7,7,7,7,5,6,5,5,6,6,6,6,6,6,6,6,6,6,6,6,6,6,6,5,5,4,4,5,5,5,
 5,5,5,5,5,5,5,5,5,5,5,5,4,4,3,3,4,4,4,4,4,4,4,4,4,4,4,4,4,4,4,3,3,2,3,3,3,3,3,3,3,3,3,3,3,3,3,3,3,3,
 3,3,1,2,2,2,2,2,2,2,2,2,2,2,2,2,2,2,2,2,2,0,1,1,1,1,1,1,1,1,1,1,1,1,1,1,1,1,1,1]
def exC3:List Nat:=
 [1,2,2,2,2,2,2,2,2,2,2,2,2,2,2,2,2,2,2,0,1,1,1,1,1,1,1,1,1,1,1,1,1,1,1,1,1,1]
theorem exS1:chkSol exP1 exC1=true:=by kernel_rfl
theorem exS2:chkSol exP2 exC2=true:=by kernel_rfl
theorem exS3:chkSol exP3 exC3=true:=by kernel_rfl
theorem exE1:encS exP1 exC1=[142,164,186]:=by kernel_rfl
theorem exE2:encS exP2 exC2=[230,91,11,91,11,91,11,254]:=by kernel_rfl
theorem exE3:cst exC3 0 0=1:=by kernel_rfl
theorem enc_of{p:List UInt8}{c d w:List Nat}(h:New p 0 c)(hs:chkSol p d=true)(e:encS p d=w):encS p c=w:=by
 rw[sol_uniq (new_sol h) (chk_sol hs)];exact e
theorem cst_of{p:List UInt8}{c d:List Nat}{n:Nat}(h:New p 0 c)(hs:chkSol p d=true)(e:cst d 0 0=n):cst c 0 0=n:=by
 rw[sol_uniq (new_sol h) (chk_sol hs)];exact e
end Go.Proofs.Ythnflhimcmdnbaa
namespace Go.Proofs.Ythnflhimcmdnbaa
open Go.Abs
set_option linter.unusedSimpArgs false
set_option linter.unusedVariables false
set_option maxRecDepth 20000
theorem exD:decT [230,91,11,254,66,129]=.inr [65,73,77,65]:=by kernel_rfl
theorem exF:padT [66] 3=.inr [66,129,70]:=by kernel_rfl
abbrev strV(l:List UInt8):Value:=.string ⟨l.toArray⟩
theorem bytesOf_uU:∀l:List UInt8,bytesOf (uU l)=some l
 | []=>rfl
 | b::l=>by
  have ih:=bytesOf_uU l
  simp only[uU,List.map_cons,bytesOf]at ih ⊢
  rw[ih]
  simp
theorem bytes_beq(a b:List UInt8):((ByteArray.mk a.toArray).toList==(ByteArray.mk b.toArray).toList)=(a==b):=by
 rw[ByteArray.toList_eq,ByteArray.toList_eq]
section
variable {lo:Nat}{H:Heap}
theorem b2s_sl{v:Value}{l:List UInt8}(h:SlU H v l):lsem .b2s [v] H=some (strV l):=by
 rcases h with ⟨rfl,rfl⟩|⟨b,o,sp,cap,xs,rfl,h1,h2,h3,h4,h5⟩
 ·rfl
 ·simp only[lsem,Heap.cells,h1,if_pos h3,h2]
  rw[show l.map encU=uU l from rfl]
  simp only[Option.bind_some,bytesOf_uU,Option.map_some]
theorem ls_strEql{a b:List UInt8}:lsem (.bin .eql) [strV a,strV b] H=some (.bool (a==b)):=by
 simp only[lsem,binSem,binStr,bytes_beq]
theorem wpH_frz{cp:FuncId→Option CF}{R:Value→Heap→Prop}{b o n c:Nat}{X:List Value}(hg:H.get b=some X)(hlo:lo≤b)(k:R (.slice (some ⟨b,o,none⟩) n c) H):wpH cp lo .frz [.slice (some ⟨b,o,none⟩) n c] H R:=by
 simp only[wpH,hsem0,hsem,frzSem,hg,if_pos hlo]
 exact k
theorem ints_eq{lo:Nat}{H:Heap}{va vb:Value}{a b:List Int}(ha:SlI H va a)(hb:SlI H vb b)(hsm:a.length≤1000000000)(hbm:b.length≤1000000000)(h:a=b):Ev cp lo 13 [va,vb] H (fun v H'=>H=H'∧v=.bool true):=by
 have:=ints (lo:=lo) ha hb hsm hbm
 rw[decide_eq_true h]at this
 exact this.mono fun v H' h=>⟨h.1.symm,h.2⟩
theorem lit{H G:Heap}{c:List Value}(h:H++[some c]=G):Ext H G∧G.get H.length=some c:=by
 subst h;exact⟨Ext.app _ _,get_app0⟩
theorem xUDz{cp:FuncId→Option CF}{lo:Nat}{l:List (Nat×E)}{chk:List E}{Q:Post}{S:List Value}{H:Heap}{vs:List (Nat×Value)}{dst:Option Nat}{o:HOp}{a:E}{xs:List Value}{pc:PC}{S':List Value}{H':Heap}{v:Value}(hcall:o.isCall=false)(k:Q .normal S' H')(h:evSets S H l=some vs:=by exact xEDg)(hc:evChk S H chk=true:=by simp(disch:=first|omega|(simp only[lenB];omega))only[evB,xBDc,Nat.reduceAdd,Nat.reduceBEq,Int.reduceToNat, *])(hp:holds S H pc=some true:=by simp(disch:=first|omega|(simp only[lenB];omega))only[evB,xBDc,Nat.reduceAdd,Nat.reduceBEq,Int.reduceToNat, *];try rfl)(ha:ev S H a=some xs:=by exact xEDg)(ho:hsem0 lo o xs H=some (v,H'):=by exact xEDg)(hS:setD (setAll S vs) dst v=S':=by exact xEDg):wpS cp lo (.hv l chk pc dst o a) Q S H:=aw_opT hcall h hc hp ha ho hS k
set_option maxHeartbeats 4000000 in
theorem alive(hlo:lo≤H.length):Ev cp lo 9 [] H (fun v H'=>Ext H H'∧v=.bool true):=by
 refine st9 ?_;unfold bd9 cf9;simp only[kB,ctlB]
 repeat' ((first|refine xSDg ?_|refine xODg rfl ?_);(try simp only[ctlB]))
 generalize hG:H++_=G1
 obtain⟨hx1,hg1⟩:=lit hG
 clear hG
 have hl1:=hx1.1
 have hs1:SlU G1 (.slice (some ⟨H.length,0,none⟩) 6 6) exP1:=Sl.whole hg1 rfl
 refine xHDg ?_
 refine wpH_frz hg1 hlo ?_
 (try simp only[ctlB])
 refine xHDg ?_
 refine wpH_call0 (encP hs1 (by decide) (by omega)) ?_
 rintro r H1 ⟨hx2,u1,c1,hn1,rfl,hu1⟩
 rw[enc_of hn1 exS1 exE1]at hu1
 clear hn1 c1 hs1 hg1
 have hxa:=hx1.trans hx2
 have hl2:=hxa.1
 (try simp only[ctlB])
 repeat' ((first|refine xSDg ?_|refine xODg rfl ?_);(try simp only[ctlB]))
 generalize hG:H1++_=G2
 obtain⟨hx3,hg2⟩:=lit hG
 clear hG
 have hl3:=hx3.1
 have hs2:SlU G2 (.slice (some ⟨H1.length,0,none⟩) 9 9) exP2:=Sl.whole hg2 rfl
 refine xHDg ?_
 refine wpH_frz hg2 (by omega) ?_
 (try simp only[ctlB])
 refine xHDg ?_
 refine wpH_call0 (encP hs2 (by decide) (by omega)) ?_
 rintro r H2 ⟨hx4,u2,c2,hn2,rfl,hu2⟩
 rw[enc_of hn2 exS2 exE2]at hu2
 clear hn2 c2 hs2 hg2
 have hxb:=hxa.trans (hx3.trans hx4)
 replace hu1:=hu1.mono (hx3.trans hx4)
 have hl4:=hxb.1
 clear hxa hx1 hx2 hx3 hx4 hl1 hl2 hl3
 (try simp only[ctlB])
 repeat' ((first|refine xSDg ?_|refine xODg rfl ?_);(try simp only[ctlB]))
 generalize hG:H2++_=G3
 obtain⟨hx5,hg3⟩:=lit hG
 clear hG
 have hl5:=hx5.1
 have hs3:SlI G3 (.slice (some ⟨H2.length,0,none⟩) 6 6) [230,91,11,254,66,129]:=Sl.whole hg3 rfl
 refine xHDg ?_
 refine wpH_call0 (decP hs3 (by decide) (by omega)) ?_
 intro r H3 hr
 rw[exD]at hr
 obtain⟨hx6,u3,rfl,hu3⟩:=hr
 clear hs3 hg3
 have hxc:=hxb.trans (hx5.trans hx6)
 replace hu1:=hu1.mono (hx5.trans hx6)
 replace hu2:=hu2.mono (hx5.trans hx6)
 have hl6:=hxc.1
 clear hxb hx5 hx6 hl4 hl5
 (try simp only[ctlB])
 repeat' ((first|refine xSDg ?_|refine xODg rfl ?_);(try simp only[ctlB]))
 generalize hG:H3++_=G4
 obtain⟨hx5,hg3⟩:=lit hG
 clear hG
 have hl5:=hx5.1
 have hs3:SlI G4 (.slice (some ⟨H3.length,0,none⟩) 1 1) [66]:=Sl.whole hg3 rfl
 refine xHDg ?_
 refine wpH_call0 (padP (n:=3) hs3 (by decide) (by decide) (by omega)) ?_
 intro r H4 hr
 rw[exF]at hr
 obtain⟨hx6,u4,rfl,hu4⟩:=hr
 clear hs3 hg3
 have hxd:=hxc.trans (hx5.trans hx6)
 replace hu1:=hu1.mono (hx5.trans hx6)
 replace hu2:=hu2.mono (hx5.trans hx6)
 replace hu3:=hu3.mono (hx5.trans hx6)
 have hl7:=hxd.1
 clear hxc hx5 hx6 hl6 hl5
 (try simp only[ctlB])
 repeat' ((first|refine xSDg ?_|refine xODg rfl ?_);(try simp only[ctlB]))
 generalize hG:H4++_=G5
 obtain⟨hx1,hg1⟩:=lit hG
 clear hG
 have hl1:=hx1.1
 have hs1:SlU G5 (.slice (some ⟨H4.length,0,none⟩) 1 1) exP3:=Sl.whole hg1 rfl
 refine xHDg ?_
 refine wpH_frz hg1 (by omega) ?_
 (try simp only[ctlB])
 refine xHDg ?_
 refine wpH_call0 (lngP hs1 (by decide) (by omega)) ?_
 rintro r H5 ⟨hx2,c1,hn1,rfl⟩
 rw[cst_of hn1 exS3 exE3]
 clear hn1 c1 hs1 hg1
 have hxe:=hxd.trans (hx1.trans hx2)
 replace hu1:=hu1.mono (hx1.trans hx2)
 replace hu2:=hu2.mono (hx1.trans hx2)
 replace hu3:=hu3.mono (hx1.trans hx2)
 replace hu4:=hu4.mono (hx1.trans hx2)
 have hl8:=hxe.1
 clear hxd hx1 hx2 hl1 hl7
 (try simp only[ctlB])
 repeat' ((first|refine xSDg ?_|refine xODg rfl ?_);(try simp only[ctlB]))
 refine xCDg (fun h=>?_) (fun h=>?_)
 ·cases h
 clear h
 (try simp only[ctlB])
 repeat' ((first|refine xSDg ?_|refine xODg rfl ?_);(try simp only[ctlB]))
 generalize hG:H5++_=G6
 obtain⟨hx1,hg1⟩:=lit hG
 clear hG
 have hl1:=hx1.1
 have hs1:SlI G6 (.slice (some ⟨H5.length,0,none⟩) 3 3) [142,164,186]:=Sl.whole hg1 rfl
 have hi1:SlI G6 u1 [142,164,186]:=encN_sli (hu1.mono hx1)
 have hxf:=hxe.trans hx1
 replace hu2:=hu2.mono hx1
 replace hu3:=hu3.mono hx1
 replace hu4:=hu4.mono hx1
 refine xHDg ?_
 refine wpH_call0 (ints_eq hi1 hs1 (by decide) (by decide) rfl) ?_
 rintro r G6' ⟨rfl,rfl⟩
 clear hi1 hs1 hg1 hu1 hxe hx1
 have hl9:=hxf.1
 (try simp only[ctlB])
 (refine xUDz rfl ?_;(try simp only[ctlB]))
 generalize hG:G6++_=G7
 obtain⟨hx1,hg1⟩:=lit hG
 clear hG
 have hl1:=hx1.1
 have hs1:SlI G7 (.slice (some ⟨G6.length,0,none⟩) 8 8) [230,91,11,91,11,91,11,254]:=Sl.whole hg1 rfl
 have hi1:SlI G7 u2 [230,91,11,91,11,91,11,254]:=encN_sli (hu2.mono hx1)
 have hxg:=hxf.trans hx1
 replace hu3:=hu3.mono hx1
 replace hu4:=hu4.mono hx1
 refine aw_hv_if (t:=true) (xEDg) (by simp(disch:=first|omega|(simp only[lenB];omega))only[evB,xBDc,Nat.reduceAdd,Nat.reduceBEq,Int.reduceToNat, *]) (by simp(disch:=first|omega|(simp only[lenB];omega))only[evB,xBDc,Nat.reduceAdd,Nat.reduceBEq,Int.reduceToNat, *];try rfl) (fun _=>⟨_,xEDg,?_⟩) (fun h=>by cases h)
 refine wpH_call0 (ints_eq hi1 hs1 (by decide) (by decide) rfl) ?_
 rintro r G7' ⟨rfl,rfl⟩
 clear hi1 hs1 hg1 hu2 hxf hx1
 have e3:=b2s_sl hu3
 have e4:=ls_strEql (H:=G7) (a:=[65,73,77,65]) (b:=[65,73,77,65])
 rw[beq_self_eq_true]at e4
 have hl10:=hxg.1
 (try simp only[ctlB])
 (refine xUDz rfl ?_;(try simp only[ctlB]))
 generalize hG:G7++_=G8
 obtain⟨hx1,hg1⟩:=lit hG
 clear hG
 have hl1:=hx1.1
 have hs1:SlI G8 (.slice (some ⟨G7.length,0,none⟩) 3 3) [66,129,70]:=Sl.whole hg1 rfl
 have hi1:SlI G8 u4 [66,129,70]:=hu4.mono hx1
 have hxh:=hxg.trans hx1
 refine aw_hv_if (t:=true) (xEDg) (by simp(disch:=first|omega|(simp only[lenB];omega))only[evB,xBDc,Nat.reduceAdd,Nat.reduceBEq,Int.reduceToNat, *]) (by simp(disch:=first|omega|(simp only[lenB];omega))only[evB,xBDc,Nat.reduceAdd,Nat.reduceBEq,Int.reduceToNat, *];try rfl) (fun _=>⟨_,xEDg,?_⟩) (fun h=>by cases h)
 refine wpH_call0 (ints_eq hi1 hs1 (by decide) (by decide) rfl) ?_
 rintro r G8' ⟨rfl,rfl⟩
 clear hi1 hs1 hg1 e3 e4
 (try simp only[ctlB])
 repeat' ((first|refine xSDg ?_|refine xODg rfl ?_);(try simp only[ctlB]))
 refine xRDg ?_
 exact⟨hxh,rfl⟩
end
end Go.Proofs.Ythnflhimcmdnbaa
namespace Go.Proofs.Ythnflhimcmdnbaa
open Go.Abs
set_option linter.unusedSimpArgs false
set_option linter.unusedVariables false
theorem own:ownKnob Try.prog.godebug=none:=by kernel_rfl
theorem laidOut:laidOutB Try.prog=true:=by kernel_rfl
theorem noGlobals:Try.prog.globals.size=0:=by kernel_rfl
theorem int_of{B:Nat}{H:Heap}{v:Value}(h:HasArg B H (.int .i64) v):∃n:Int,v=.int .i64 n∧IntKind.i64.min≤n∧n≤IntKind.i64.max:=by
 simp only[HasArg,Has]at h
 obtain⟨n,e,h⟩:=h
 cases e
 exact⟨n,rfl,h⟩
theorem ints_of{B:Nat}{H:Heap}{v:Value}(h:HasArg B H (.sl (.int .i64)) v):∃l:List Int,SlI H v l:=by
 simp only[HasArg]at h
 obtain⟨l,h1,_⟩:=has_slI h
 exact⟨l,h1⟩
theorem u8_of{l:List Int}(h:∀x ∈ l,IntKind.u8.min≤x∧x≤IntKind.u8.max):∃r:List UInt8,l.map (Value.int .u8)=r.map encU∧r.length=l.length:=by
 refine⟨l.map (fun x=>UInt8.ofNat x.toNat),?_,by simp⟩
 rw[List.map_map]
 refine List.map_congr_left fun x hx=>?_
 have hm:IntKind.u8.min=0:=by decide
 have hM:IntKind.u8.max=255:=by decide
 have:=h x hx
 rw[hm,hM]at this
 show Value.int .u8 x=.int .u8 ((UInt8.ofNat x.toNat).toNat:Nat)
 rw[UInt8.toNat_ofNat_of_lt' (by show x.toNat<256;omega)]
 congr 1;omega
theorem has_slU{B:Nat}{H:Heap}{v:Value}(h:Has B H (.sl (.int .u8)) [v]):∃l:List UInt8,SlU H v l∧l.length≤B:=by
 simp only[Has]at h
 rcases h with h|⟨i,len,cap,c,h1,h2,h3,h4,h5,h6⟩
 ·cases h
  exact⟨[],.inl ⟨rfl,rfl⟩,by simp⟩
 ·cases h1
  obtain⟨xs,hl,rfl,hr⟩:=hasN_int (B:=B) (H:=H) _ _ h6
  obtain⟨us,e,hul⟩:=u8_of hr
  have hlen:(us.take len).length=len:=by simp;omega
  exact⟨us.take len,.inr ⟨i,0,none,cap,_,by rw[hlen],h5,by rw[List.drop_zero,hlen,e,List.map_take],by simp;omega,.inl rfl,by simp;omega⟩,by omega⟩
theorem bytes_of{B:Nat}{H:Heap}{v:Value}(h:HasArg B H (.sl (.int .u8)) v):∃l:List UInt8,SlU H v l:=by
 simp only[HasArg]at h
 obtain⟨l,h1,_⟩:=has_slU h
 exact⟨l,h1⟩
end Go.Proofs.Ythnflhimcmdnbaa
