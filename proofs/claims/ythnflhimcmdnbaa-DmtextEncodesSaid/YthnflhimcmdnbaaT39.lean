/- Dmtext: the reference's codewords are the program's. Dmtext: the law Encodes. -/
import Derived.Test.YthnflhimcmdnbaaT21
import Derived.Test.YthnflhimcmdnbaaT36
import Derived.Test.YthnflhimcmdnbaaT38
set_option linter.unusedVariables false
set_option linter.unusedSimpArgs false
set_option linter.unusedSectionVars false
namespace Go.Proofs.Ythnflhimcmdnbaa
open Go.Abs
set_option linter.unusedSimpArgs false
set_option linter.unusedVariables false
set_option maxRecDepth 20000
theorem cho_all{p:List UInt8}{C:List Nat}(h:SolR p C){n:RN}(hn:n.ok p.length)(hp:n.ph=0)(hf:Cn C n<1099511627776)(he:¬ endR p n):∃o,ChO p C n o:=by
 have:=hn.m
 by_cases h0:n.m=0
 ·exact ch_asc h hn h0 hf he
 ·by_cases h4:n.m=4
  ·exact ch_edi h hn h4 hp hf
  ·exact ch_tri h hn (by omega) hp hf
theorem opt_le{p:List UInt8}{C:List Nat}(h:SolR p C){n:RN}(hn:n.ok p.length)(hp:n.ph=0){o:Opt}(ho:o ∈ optA p n.i (stO n)):Cn C n≤totO C o:=by
 have hm:=hn.m
 by_cases h0:n.m=0
 ·have hst:stO n=0:=by unfold stO;rw[if_pos h0]
  rw[hst]at ho
  obtain⟨y,hy,hpr⟩:=asc_fwd (show o ∈ ascA p n.i from ho)
  rw[←(pr_tot (C:=C) hpr).1]
  exact cn_le h hn (by unfold stepsR;rw[if_pos h0];exact hy)
 ·by_cases h4:n.m=4
  ·obtain⟨hs,hu⟩:=hn.s.2 (.inr (by omega))
   have hni:=hn.i
   have hne:n=eN n.i 0:=by
    obtain⟨i,m,ph,s,u⟩:=n
    simp only at h4 hp hs hu
    subst h4 hp hs hu
    rfl
   generalize n.i=i at hne hni
   subst hne
   obtain⟨j,hj,hc,rfl⟩:=ediS_iff.1 (show o ∈ ediS p i from ho)
   have hcl:∀k,k≤j→i+k≤p.length:=by
    intro k hk
    by_cases e0:k=0
    ·subst e0;exact hni
    ·have:=hc (k-1) (by omega)
     unfold okC at this;omega
   have hsz:∀k,k<4→szE k=csE k+ec k:=by
    intro k hk
    have:k=0∨k=1∨k=2∨k=3:=by omega
    rcases this with rfl|rfl|rfl|rfl<;>rfl
   have hdown:∀d k,k+d=j→csE k+Cn C (eN i k)≤szE j+Cn C (if j<4 then asR (i+j) else eN i 4):=by
    intro d
    induction d with
    | zero=>
     intro k hk
     have:k=j:=by omega
     subst this
     by_cases hk4:k<4
     ·rw[if_pos hk4]
      have:=cn_le h (eN_ok (i:=i) (k:=k) (hcl k (Nat.le_refl _))) (x:=y31 i k) (by rw[eN_steps hk4];simp)
      have h5:(y31 i k).c+Cn C (y31 i k).to=ec k+Cn C (asR (i+k)):=rfl
      have:=hsz k hk4
      omega
     ·have:k=4:=by omega
      subst this
      exact Nat.le_refl _
    | succ d ih=>
     intro k hk
     have h1:=ih (k+1) (by omega)
     have hk4:k<4:=by omega
     have hok:=hc k (by omega)
     have h2:=cn_le h (eN_ok (i:=i) (k:=k) (hcl k (by omega))) (x:=yc p i k) (by
      rw[eN_steps hk4]
      unfold okC at hok
      rw[if_pos hok];simp)
     have h5:(yc p i k).c+Cn C (yc p i k).to=ec k+Cn C (eN i (k+1)):=rfl
     have h3:csE (k+1)=csE k+ec k:=by
      unfold csE ec
      have:k=0∨k=1∨k=2∨k=3:=by omega
      rcases this with rfl|rfl|rfl|rfl<;>rfl
     omega
   have:=hdown j 0 (by omega)
   rw[oE_tot hj]
   have e0:csE 0=0:=rfl
   omega
  ·have hm3:1≤n.m∧n.m≤3:=by omega
   rcases(optA_tri hn hm3 hp).1 ho with rfl|⟨u,v,w,t,⟨t1,t2,⟨g1,g2,g3⟩,hu,hv,hw⟩,rfl⟩
   ·exact cn_le h hn (x:=⟨254,-1,-1,1,⟨n.i,0,0,0,false⟩⟩) (by rw[steps_tri hm3];exact latL_mem hp 40)
   ·obtain⟨l1,l2,l3⟩:=tri_le h hn hm3 hp g1 g2 g3 hu hv hw
    obtain⟨c1,c2,c3⟩:=tri_ok hn hm3 hp ⟨t1,t2,⟨g1,g2,g3⟩,hu,hv,hw⟩
    have e0:totO C (triO u v w t.i (stO t))=2+0+Cn C (ndO t.i (stO t)):=rfl
    rw[e0,ndO_st c1 c3]
    omega
theorem pth_cn{p:List UInt8}{C:List Nat}(h:SolR p C){a st m:Nat}(hp:Pth p a st m):Cn C (ndO a st)≤m:=by
 induction hp with
 | nil=>exact costR_asc h 0 p.length (by omega)
 | @cons a st m o ha hst ho _ ih=>
  obtain⟨h1,h2,h3,h4⟩:=ndO_ok ha hst
  have:=opt_le h h1 h2 (o:=o) (by rw[h3,h4];exact ho)
  unfold totO at this
  omega
theorem cn_pth{p:List UInt8}{C:List Nat}(h:SolR p C):∀(k:Nat) {n:RN},n.ok p.length→n.ph=0→Cn C n=k→k<1099511627776→Pth p n.i (stO n) k:=by
 intro k
 induction k using Nat.strongRecOn with
 | ind k ih=>
  intro n hn hp hc hk
  by_cases he:endR p n
  ·obtain⟨e1,e2⟩:=he
   have hne:n=asR p.length:=by
    obtain⟨hs,hu⟩:=hn.s.2 (.inl e1)
    obtain⟨i,m,ph,s,u⟩:=n
    simp only at e1 e2 hp hs hu
    subst e1 e2 hp hs hu
    rfl
   have:Cn C (asR p.length)≤2*0:=costR_asc h 0 p.length (by omega)
   rw[hne]at hc ⊢
   have:k=0:=by omega
   subst this
   exact .nil
  ·obtain⟨o,ho⟩:=cho_all h hn hp (by omega) he
   have hok:=optA_ok hn.i o ho.mem
   obtain⟨h1,h2,h3,h4⟩:=ndO_ok hok.nx.2 hok.md
   have ht:=ho.tot
   unfold totO at ht
   have hsz:=hok.sz
   have hsub:=ih (Cn C (ndO o.nx o.md)) (by omega) h1 h2 rfl (by omega)
   rw[h3,h4]at hsub
   have:=Pth.cons hn.i (stO_lt hn) ho.mem hsub
   rw[show k=o.sz+o.run+Cn C (ndO o.nx o.md) by omega]
   exact this
theorem cst_fin{p:List UInt8}{c:List Nat}(h:Sol p c)(hl:p.length≤4096){a st:Nat}(ha:a≤p.length)(hs:st<19):cst c a st≤10000:=by
 have h0:=cost_asc h (p.length-a) a (by omega)
 by_cases e:st=0
 ·subst e;omega
 ·have key:∀o ∈ optS p c a st,o.sz=1→o.run=0→o.nx=a→o.md=0→cst c a st≤10000:=by
   intro o ho h1 h2 h3 h4
   have:=(h.row a ha).fix st hs o ho
   have ht:totS c o=o.sz+o.run+cst c o.nx o.md:=rfl
   rw[h1,h2,h3,h4]at ht
   show c.getD (a*19+st) 0≤_
   omega
  have hl:latO a ∈ optS p c a st∨bitO 31 1 a 0 ∈ optS p c a st:=by
   unfold optS
   rw[if_neg e]
   split
   ·exact .inl (by simp[tripS])
   ·split
    ·exact .inl (by simp[tripS])
    ·split
     ·exact .inl (by simp[x12O])
     ·exact .inr (by simp[ediS,ediR])
  rcases hl with hl|hl
  ·exact key _ hl rfl rfl rfl rfl
  ·exact key _ hl rfl rfl rfl rfl
theorem cost_eq{p:List UInt8}{c C:List Nat}(hs:Sol p c)(h:SolR p C)(hl:p.length≤4096){n:RN}(hn:n.ok p.length)(hp:n.ph=0):Cn C n=cst c n.i (stO n):=by
 have hf:=cst_fin hs hl hn.i (stO_lt hn)
 have h1:=pth_cn h (cost_path hs _ hn.i (stO_lt hn) rfl (by omega))
 rw[ndO_st hn hp]at h1
 have h2:=cost_le hs (cn_pth h _ hn hp rfl (by omega))
 omega
theorem tot_eq{p:List UInt8}{c C:List Nat}(hs:Sol p c)(h:SolR p C)(hl:p.length≤4096){a st:Nat}{o:Opt}(ha:a≤p.length)(ho:o ∈ optA p a st):totS c o=totO C o:=by
 have hok:=optA_ok ha o ho
 obtain⟨h1,h2,h3,h4⟩:=ndO_ok hok.nx.2 hok.md
 have e:=cost_eq hs h hl h1 h2
 rw[h3,h4]at e
 show o.sz+o.run+cst c o.nx o.md=o.sz+o.run+Cn C (ndO o.nx o.md)
 rw[e]
theorem cmp_anti:∀{l m:List Nat},cmpS l m<0→¬ cmpS m l<0
 | [],[],h=>by simp[cmpS]at h
 | [],_::_,h=>by simp[cmpS]
 | _::_,[],h=>by simp[cmpS]at h
 | a::l,b::m,h=>by
  unfold cmpS at h ⊢
  by_cases h1:a<b
  ·rw[if_neg (by omega),if_pos h1];decide
  ·rw[if_neg h1]at h
   by_cases h2:b<a
   ·rw[if_pos h2]at h;exact absurd h (by decide)
   ·rw[if_neg h2]at h
    rw[if_neg h2,if_neg h1]
    exact cmp_anti h
theorem fold_eq{c:List Nat}{cost:Nat}{o:Opt}(hz:1≤o.sz)(ht:totS c o=cost):∀(L:List Opt) (b:Opt),(b=o∨(o ∈ L∧(b=zeroO∨cmpS (hd o) (hd b)<0)))→(∀o' ∈ L,totS c o'=cost→o'=o∨cmpS (hd o) (hd o')<0)→L.foldl (better c cost) b=o
 | [],b,h,_=>by
  rcases h with h|⟨h,_⟩
  ·exact h
  ·cases h
 | x::L,b,h,hL=>by
  rw[List.foldl_cons]
  refine fold_eq hz ht L _ ?_ fun o' ho'=>hL o' (List.mem_cons_of_mem _ ho')
  unfold better
  by_cases hx:x=o
  ·left
   rw[hx]
   rcases h with rfl|⟨h,hb⟩
   ·rw[ite_self]
   ·have hb2:b.sz=0∨cmpS (hd o) (hd b)<0:=by
     rcases hb with rfl|hb
     ·exact .inl rfl
     ·exact .inr hb
    rw[if_pos ⟨ht,hb2⟩]
  ·have hxx:=hL x (by simp)
   rcases h with rfl|⟨h,hb⟩
   ·left
    rw[if_neg]
    rintro⟨g1,g2⟩
    rcases hxx g1 with e|e
    ·exact hx e
    ·rcases g2 with g|g
     ·omega
     ·exact absurd g (cmp_anti e)
   ·right
    refine⟨?_,?_⟩
    ·rcases List.mem_cons.1 h with e|h
     ·exact absurd e.symm hx
     ·exact h
    ·split
     ·rename_i hc
      rcases hxx hc.1 with e|e
      ·exact absurd e hx
      ·exact .inr e
     ·exact hb
theorem binB_first{c:List Nat}{a:Nat}:∀n,1≤n→∃k,1≤k∧k≤n∧binB c a n=binO a k∧∀d,1≤d→d<k→totS c (binO a k)<totS c (binO a d)
 | 0,h=>by omega
 | n+1,_=>by
  rw[binB]
  by_cases hn:n=0
  ·subst hn
   rw[if_pos rfl]
   exact⟨1,by omega,by omega,rfl,fun d h1 h2=>by omega⟩
  ·rw[if_neg hn]
   obtain⟨k,h1,h2,h3,h4⟩:=binB_first (c:=c) (a:=a) n (by omega)
   by_cases h:totS c (binO a (n+1))<totS c (binB c a n)
   ·rw[if_pos h]
    refine⟨n+1,by omega,Nat.le_refl _,rfl,fun d g1 g2=>?_⟩
    exact Nat.lt_of_lt_of_le h (binB_le g1 (by omega))
   ·rw[if_neg h]
    exact⟨k,h1,by omega,h3,h4⟩
theorem chs_cho{p:List UInt8}{c C:List Nat}(hs:Sol p c)(h:SolR p C)(hl:p.length≤4096){n:RN}(hn:n.ok p.length)(hp:n.ph=0){o:Opt}(ho:ChO p C n o):chs p c n.i (stO n)=o:=by
 have hok:=optA_ok (st:=stO n) hn.i
 have hce:=cost_eq hs h hl hn hp
 have htt:∀{o'},o' ∈ optA p n.i (stO n)→totS c o'=totO C o':=fun h'=>tot_eq hs h hl hn.i h'
 have hot:totS c o=cst c n.i (stO n):=by rw[htt ho.mem,ho.tot,hce]
 have hleast:∀o' ∈ optA p n.i (stO n),totS c o'=cst c n.i (stO n)→o'=o∨cmpS (hd o) (hd o')<0:=by
  intro o' ho' ht
  exact ho.least o' ho' (by rw[←htt ho',ht,hce])
 have hmem:o ∈ optS p c n.i (stO n):=by
  have hm:=ho.mem
  unfold optA at hm
  unfold optS
  by_cases h0:stO n=0
  ·rw[if_pos h0]at hm ⊢
   unfold ascA at hm
   unfold ascS
   rcases List.mem_append.1 hm with hm|hm
   ·exact List.mem_append_left _ hm
   ·refine List.mem_append_right _ ?_
    split at hm
    ·rename_i hi
     rw[if_pos hi]
     rcases List.mem_append.1 hm with hm|hm
     ·exact List.mem_append_left _ hm
     ·refine List.mem_append_right _ ?_
      obtain⟨d,d1,d2,d3,rfl⟩:=binA_mem.1 hm
      obtain⟨k,k1,k2,k3,k4⟩:=binB_first (c:=c) (a:=n.i) (min (p.length-n.i) 1749) (by omega)
      have hle:=binB_le (c:=c) (a:=n.i) (n:=min (p.length-n.i) 1749) (k:=d) d1 (by omega)
      rw[k3]at hle
      have hkm:binO n.i k ∈ optA p n.i (stO n):=by
       unfold optA
       rw[if_pos h0]
       unfold ascA
       refine List.mem_append_right _ ?_
       rw[if_pos hi]
       exact List.mem_append_right _ (binA_mem.2 ⟨k,k1,by omega,by omega,rfl⟩)
      have hge:cst c n.i (stO n)≤totS c (binO n.i k):=by
       rw[htt hkm,←hce]
       exact opt_le h hn hp hkm
      unfold binS
      rw[k3]
      rcases hleast _ hkm (by omega)with e|e
      ·rw[e];simp
      ·by_cases hdk:d<k
       ·have:=k4 d d1 hdk
        omega
       ·by_cases hkd:k<d
        ·exact absurd e (cmp_anti (bin_cmp hkd))
        ·rw[show k=d by omega];simp
    ·cases hm
  ·rw[if_neg h0]at hm ⊢
   exact hm
 unfold chs chsL
 exact fold_eq (hok o ho.mem).sz.1 hot _ _ (.inr ⟨hmem,.inl rfl⟩) fun o' ho' ht=>hleast o' (optS_sub ho') ht
theorem enc_main{p:List UInt8}{c C:List Nat}(hs:Sol p c)(h:SolR p C)(hl:p.length≤4096):∀(k:Nat) {n:RN} {f g:Nat} {W Pt:List Nat},n.ok p.length→n.ph=0→Cn C n=k→mea C n<f→cst c n.i (stO n)<g→(n.m=4→Pt.length%4=0)→(n.m≠4→Pt=[])→(∀k,Pt.getD k 0<64)→encR p C f n W Pt=wrdS p c g n.i (stO n) (W++packR Pt):=by
 intro k
 induction k using Nat.strongRecOn with
 | ind k ih=>
  intro n f g W Pt hn hp hc hf hg hP4 hP0 hPv
  have hce:=cost_eq hs h hl hn hp
  have hfin:=cst_fin hs hl hn.i (stO_lt hn)
  obtain⟨g',rfl⟩:∃g',g=g'+1:=⟨g-1,by omega⟩
  by_cases he:endR p n
  ·obtain⟨e1,e2⟩:=he
   obtain⟨f',rfl⟩:∃f',f=f'+1:=⟨f-1,by omega⟩
   have hPt:=hP0 (by omega)
   subst hPt
   have hst:stO n=0:=by unfold stO;rw[if_pos e1]
   have h1:encR p C (f'+1) n W []=W:=by
    show(if n.m≠0∨n.i<p.length then _ else W)=W
    rw[if_neg (by omega)]
   rw[h1,wrdS,if_pos ⟨hst,e2⟩,show packR []=[] from rfl,List.append_nil]
  ·obtain⟨o,ho⟩:=cho_all h hn hp (by omega) he
   have hch:=chs_cho hs h hl hn hp ho
   have hok:=optA_ok hn.i o ho.mem
   obtain⟨h1,h2,h3,h4⟩:=ndO_ok hok.nx.2 hok.md
   have ht:=ho.tot
   unfold totO at ht
   have hsz:=hok.sz
   obtain⟨f',W',Pt',q1,q2,q3,q4,q5,q6⟩:=ho.em f W Pt hf hP4 hP0 hPv
   have hce2:=cost_eq hs h hl h1 h2
   have:=ih (Cn C (ndO o.nx o.md)) (by omega) (f:=f') (g:=g') (W:=W') (Pt:=Pt') h1 h2 rfl q1 (by omega) q4 q5 q6
   rw[q2,this,q3,h3,h4]
   have hne:¬ (stO n=0∧n.i=p.length):=by
    rintro⟨e1,e2⟩
    refine he ⟨?_,e2⟩
    have hx:=ndO_st hn hp
    rw[e1]at hx
    rw[←hx];rfl
   rw[wrdS,if_neg hne,hch]
theorem enc_eq{p:List UInt8}{c C:List Nat}(hs:Sol p c)(h:SolR p C)(hl:p.length≤4096):encR p C (mea C (asR 0)+1) (asR 0) [] []=encS p c:=by
 have:=enc_main hs h hl _ (n:=asR 0) (f:=mea C (asR 0)+1) (g:=cst c 0 0+1) (W:=[]) (Pt:=[]) (asR_ok (Nat.zero_le _)) rfl rfl (by omega) (Nat.lt_succ_self _) (fun _=>rfl) (fun _=>rfl) (by simp)
 exact this
end Go.Proofs.Ythnflhimcmdnbaa
namespace Go.Proofs.Ythnflhimcmdnbaa
open Go.Abs
set_option linter.unusedSimpArgs false
set_option linter.unusedVariables false
set_option maxRecDepth 20000
section
variable {lo:Nat}{H:Heap}{v:Value}
theorem lawEnc{p:List UInt8}(hv:SlU H v p)(hlo:lo≤H.length):Ev cp lo 3 [v] H (fun r _=>r=.bool true):=by
 obtain⟨ad,c,ev⟩:=hv.len
 rw[ev]at hv ⊢
 clear ev
 refine st3 ?_;unfold bd3 cf3;simp only[kB,ctlB]
 repeat' ((first|refine xSDg ?_|refine xODg rfl ?_);(try simp only[ctlB]))
 by_cases hb:40<p.length
 ·have hd:decide ((p.length:Int)>40)=true:=decide_eq_true (by omega)
  refine xCDg (fun h=>?_) (fun h=>?_)
  ·clear h
   (try simp only[ctlB])
   refine xHDg ?_
   refine wpH_call0 (alive hlo) ?_
   rintro r H1 ⟨hx,rfl⟩
   (try simp only[ctlB])
   repeat' ((first|refine xSDg ?_|refine xODg rfl ?_);(try simp only[ctlB]))
   refine xRDg ?_
   rfl
  ·exfalso;simp at h
 have hd:decide ((p.length:Int)>40)=false:=decide_eq_false (by omega)
 refine xCDg (fun h=>?_) (fun h=>?_)
 ·exfalso;simp at h
 clear h hd
 (try simp only[ctlB])
 refine xHDg ?_
 refine wpH_call0 (encP hv (by omega) hlo) ?_
 rintro r H1 ⟨hx1,u,cs,hn,rfl,hu⟩
 have hl1:=hx1.1
 have hs:=new_sol hn
 (try simp only[ctlB])
 repeat' ((first|refine xSDg ?_|refine xODg rfl ?_);(try simp only[ctlB]))
 refine xHDg ?_
 refine wpH_call0 (encRP (lo:=lo) (hv.mono hx1) (by omega) (by omega)) ?_
 rintro r H2 ⟨hx2,C,w,b,hsol,rfl,hb2,hw⟩
 have hx12:=hx1.trans hx2
 have hl2:=hx12.1
 rw[enc_eq hs hsol (by omega)]at hw
 (try simp only[ctlB])
 repeat' ((first|refine xSDg ?_|refine xODg rfl ?_);(try simp only[ctlB]))
 refine xHDg ?_
 refine wpH_call0 (lngP (hv.mono hx12) (by omega) (by omega)) ?_
 rintro r H3 ⟨hx3,c2,hn2,rfl⟩
 obtain rfl:=sol_uniq hs (new_sol hn2)
 have hx13:=hx12.trans hx3
 have hl3:=hx13.1
 have hel:=enc_len hs (by omega)
 have hcl:=cost_asc hs p.length 0 (by omega)
 clear hn hn2 hs hsol hb2
 have hw2:Sl encN H2 w (encS p cs):=Sl.ofOwn hw
 generalize encS p cs=E at hu hel hw hw2
 generalize cst cs 0 0=n at hel hcl ⊢
 have hu2:=encN_sli (hu.mono (hx2.trans hx3))
 have hw3:=encN_sli (hw2.mono hx3)
 have hzl:(E.map (fun i:Nat=>(i:Int))).length=n:=by simp[hel]
 clear hu hw hw2 hel
 generalize E.map (fun i:Nat=>(i:Int))=Z at hu2 hw3 hzl
 obtain⟨aw,cw,ew⟩:=hw3.len
 rw[hzl]at ew
 rw[ew]at hw3 ⊢
 clear ew
 (try simp only[ctlB])
 repeat' ((first|refine xSDg ?_|refine xODg rfl ?_);(try simp only[ctlB]))
 refine xHDg ?_
 refine wpH_call0 (ints_eq hu2 hw3 (by omega) (by omega) rfl) ?_
 rintro r H4 ⟨rfl,rfl⟩
 clear hu2 hw3
 (try simp only[ctlB])
 repeat' ((first|refine xSDg ?_|refine xODg rfl ?_);(try simp only[ctlB]))
 refine aw_hv_if (t:=true) (xEDg) (by simp(disch:=first|omega|(simp only[lenB];omega))only[evB,xBDc,Nat.reduceAdd,Nat.reduceBEq,Int.reduceToNat, *]) (by simp(disch:=first|omega|(simp only[lenB];omega))only[evB,xBDc,Nat.reduceAdd,Nat.reduceBEq,Int.reduceToNat, *];try rfl) (fun _=>⟨_,xEDg,?_⟩) (fun h=>by cases h)
 refine wpH_call0 (alive (by omega)) ?_
 rintro r H7 ⟨hx,rfl⟩
 (try simp only[ctlB])
 repeat' ((first|refine xSDg ?_|refine xODg rfl ?_);(try simp only[ctlB]))
 refine xRDg ?_
 rfl
end
end Go.Proofs.Ythnflhimcmdnbaa
