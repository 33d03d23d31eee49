/- Lemmas. -/
import Derived.Test.YtgpolmomghejoaaDoorN14
set_option linter.unusedVariables false
set_option linter.unusedSimpArgs false
set_option linter.unusedSectionVars false
namespace Go.Proofs.YtgpolmomghejoaaDoor
open Go.Abs
def scl10:List Nat→Nat→List Nat×Nat
 | [],c=>([],c)
 | d::r,c=>((c+900*d)%10::(scl10 r ((c+900*d)/10)).1,(scl10 r ((c+900*d)/10)).2)
theorem scl10_snoc:∀(r:List Nat) (d c:Nat),scl10 (r++[d]) c=((scl10 r c).1++[((scl10 r c).2+900*d)%10],((scl10 r c).2+900*d)/10)
 | [],d,c=>rfl
 | x::r,d,c=>by simp only[List.cons_append,scl10,scl10_snoc r]
theorem scl10_len:∀(r:List Nat) (c:Nat),(scl10 r c).1.length=r.length
 | [],_=>rfl
 | x::r,c=>by simp only[scl10,List.length_cons,scl10_len r]
theorem scl10_val:∀(r:List Nat) (c:Nat),valB 10 (scl10 r c).1+10^r.length*(scl10 r c).2=900*valB 10 r+c
 | [],c=>by simp[scl10,valB]
 | x::r,c=>by
  have ih:=scl10_val r ((c+900*x)/10)
  simp only[scl10,valB,List.length_cons,Nat.pow_succ]
  have e:10^r.length*10*(scl10 r ((c+900*x)/10)).2=10*(10^r.length*(scl10 r ((c+900*x)/10)).2):=by
   rw[Nat.mul_comm (10^r.length) 10,Nat.mul_assoc]
  rw[e]
  omega
theorem scl10_dig:∀(r:List Nat) (c:Nat),∀d ∈ (scl10 r c).1,d<10
 | [],_,d,h=>by simp[scl10]at h
 | x::r,c,d,h=>by
  simp only[scl10,List.mem_cons]at h
  rcases h with rfl|h
  ·exact Nat.mod_lt _ (by decide)
  ·exact scl10_dig r _ d h
theorem scl10_carry:∀(r:List Nat) (c:Nat),(∀d ∈ r,d<10)→c<900→(scl10 r c).2<900
 | [],_,_,h=>h
 | x::r,c,h,hc=>by
  have hx:=h x (by simp)
  exact scl10_carry r _ (fun d hd=>h d (by simp[hd])) (by omega)
def digs0(N:Nat):List Nat:=if N=0 then[0] else digs 10 N
def dec0(N:Nat):List Nat:=(digs0 N).reverse
theorem digs0_of{L:List Nat}(h:∀d ∈ L,d<10)(h1:L≠[])(h2:L.length=1∨10^(L.length-1)≤valB 10 L):L=digs0 (valB 10 L):=by
 unfold digs0
 obtain⟨A,z,rfl⟩:∃A z,L=A++[z]:=⟨L.dropLast,L.getLast h1,(List.dropLast_concat_getLast h1).symm⟩
 have hv:valB 10 (A++[z])=valB 10 A+10^A.length*z:=by rw[valB_append];simp[valB]
 have hA:=valB_lt (B:=10) (l:=A) (fun d hd=>h d (by simp[hd]))
 by_cases hz:z=0
 ·subst hz
  rw[hv]at h2 ⊢
  rcases h2 with h2|h2
  ·have:A=[]:=by simpa using h2
   subst this;simp[valB]
  ·simp at h2;omega
 ·have hp:0<10^A.length:=Nat.pow_pos (by decide)
  have:10^A.length*1≤10^A.length*z:=Nat.mul_le_mul_left _ (by omega)
  rw[if_neg (by omega),digs_val (by decide) h,trimZ_id]
  simp
  exact hz
theorem digs0_ne(N:Nat):digs0 N≠[]:=by
 unfold digs0;split
 ·simp
 ·rename_i h;rw[digs_pos (by decide) h];simp
theorem digs0_lt(N:Nat):∀d ∈ digs0 N,d<10:=by
 unfold digs0;split
 ·simp
 ·exact digs_lt (by decide) N
theorem digs0_val(N:Nat):valB 10 (digs0 N)=N:=by
 unfold digs0;split
 ·rename_i h;subst h;rfl
 ·exact valB_digs (by decide) N
theorem digs0_big(N:Nat):(digs0 N).length=1∨10^((digs0 N).length-1)≤N:=by
 by_cases h:N=0
 ·subst h;exact .inl rfl
 ·have hl:digs0 N=digs 10 N:=if_neg h
  right
  rw[hl]
  refine Decidable.byContradiction fun hc=>?_
  have hp:0<(digs 10 N).length:=by rw[digs_pos (by decide) h];simp
  have:=digs_length_le (B:=10) (by decide) ((digs 10 N).length-1) N (by omega)
  omega
theorem digs0_step(N:Nat){w:Nat}:(scl10 (digs0 N) w).1++digs 10 (scl10 (digs0 N) w).2=digs0 (N*900+w):=by
 have hv:=scl10_val (digs0 N) w
 rw[digs0_val]at hv
 have hlen:=scl10_len (digs0 N) w
 have hval:valB 10 ((scl10 (digs0 N) w).1++digs 10 (scl10 (digs0 N) w).2)=N*900+w:=by
  rw[valB_append,valB_digs (by decide),hlen];omega
 rw[←hval]
 have h0:0<(digs0 N).length:=List.length_pos_iff.2 (digs0_ne N)
 refine digs0_of ?_ ?_ ?_
 ·intro d hd
  rcases List.mem_append.1 hd with h|h
  ·exact scl10_dig _ _ d h
  ·exact digs_lt (by decide) _ d h
 ·intro e
  have:=congrArg List.length e
  simp[hlen]at this
  exact digs0_ne N this.1
 ·rw[hval,List.length_append,hlen]
  by_cases hc:(scl10 (digs0 N) w).2=0
  ·rw[hc,digs_zero,List.length_nil,Nat.add_zero]
   rcases digs0_big N with h|h
   ·exact .inl h
   ·exact .inr (by omega)
  ·right
   have h1:10^((digs 10 (scl10 (digs0 N) w).2).length-1)≤(scl10 (digs0 N) w).2:=by
    have:=digs0_big (scl10 (digs0 N) w).2
    rw[show digs0 (scl10 (digs0 N) w).2=digs 10 (scl10 (digs0 N) w).2 from if_neg hc]at this
    rcases this with h|h
    ·rw[h];simp;omega
    ·exact h
   have hp:0<(digs 10 (scl10 (digs0 N) w).2).length:=by rw[digs_pos (by decide) hc];simp
   rw[show(digs0 N).length+(digs 10 (scl10 (digs0 N) w).2).length-1=(digs0 N).length+((digs 10 (scl10 (digs0 N) w).2).length-1) by omega,Nat.pow_add]
   have:=Nat.mul_le_mul_left (10^(digs0 N).length) h1
   omega
theorem dec0_len{N k:Nat}(h:N<10^k)(hk:1≤k):(dec0 N).length≤k:=by
 unfold dec0 digs0
 rw[List.length_reverse]
 split
 ·simpa using hk
 ·exact digs_length_le (by decide) k N h
theorem dec0_of{N:Nat}(h:N≠0):dec0 N=dec N:=by rw[dec0,digs0,if_neg h];rfl
set_option maxRecDepth 20000
def mid10(ds:List Nat)(a k:Nat):List Nat:=ds.take (ds.length-k)++(scl10 (ds.drop (ds.length-k)).reverse a).1.reverse
def mid10c(ds:List Nat)(a k:Nat):Nat:=(scl10 (ds.drop (ds.length-k)).reverse a).2
theorem mid10_len(ds:List Nat)(a k:Nat):(mid10 ds a k).length=ds.length:=by
 simp[mid10,scl10_len]
theorem mid10_step{ds:List Nat}{a k j:Nat}(hk:j+1+k=ds.length) :
  mid10c ds a (k+1)=(mid10c ds a k+900*ds.getD j 0)/10∧mid10 ds a (k+1)=(mid10 ds a k).set j ((mid10c ds a k+900*ds.getD j 0)%10)∧(mid10 ds a k).getD j 0=ds.getD j 0:=by
 have hj:j<ds.length:=by omega
 have e1:ds.length-(k+1)=j:=by omega
 have e2:ds.length-k=j+1:=by omega
 have e3:ds.drop j=ds.getD j 0::ds.drop (j+1):=by
  rw[List.drop_eq_getElem_cons hj,List.getD_eq_getElem?_getD,List.getElem?_eq_getElem hj];rfl
 have e4:ds.take (j+1)=ds.take j++[ds.getD j 0]:=by
  rw[List.take_add_one,List.getElem?_eq_getElem hj,List.getD_eq_getElem?_getD,List.getElem?_eq_getElem hj];rfl
 have hs:=scl10_snoc (ds.drop (j+1)).reverse (ds.getD j 0) a
 have hl:(ds.take j).length=j:=by simp;omega
 unfold mid10 mid10c
 rw[e1,e2,e3,List.reverse_cons,hs,e4]
 refine⟨rfl,?_,?_⟩
 ·simp only[List.reverse_append,List.reverse_singleton,List.append_assoc,List.singleton_append]
  rw[List.set_append_right _ _ (by omega),hl,Nat.sub_self]
  rfl
 ·rw[List.append_assoc,List.getD_eq_getElem?_getD,List.getElem?_append_right (by omega),hl,Nat.sub_self]
  rfl
theorem mid10_carry{ds:List Nat}{a k:Nat}(h:∀d ∈ ds,d<10)(ha:a<900):mid10c ds a k<900:=
 scl10_carry _ _ (fun d hd=>h d (List.mem_of_mem_drop (List.mem_reverse.1 hd))) ha
theorem mid10_zero(ds:List Nat)(a:Nat):mid10 ds a 0=ds∧mid10c ds a 0=a:=by
 simp[mid10,mid10c,scl10]
theorem decP{lo:Nat}{H:Heap}{v:Value}{p:List Nat}(hlo:lo≤H.length)(hl:SlN H v p)(hp:p.length≤15)(hd:∀d ∈ p,d<900) :
  Ev cp lo 27 [v] H (fun r H'=>Ext H H'∧r=strV (strD (dec0 (numB 900 p)))):=by
 have hl0:=hl
 obtain⟨ad,c0,rfl⟩:=hl.len
 refine st27 ?_;unfold bd27 cf27;simp only[kB,ctlB]
 repeat' ((first|refine xSSg ?_|refine xOSg rfl ?_);(try simp only[ctlB]))
 refine aw_for (fun i S H'=>Ext H H'∧∃(ds:List Nat) (w:Value) (b:Nat),(ds=dec0 (numB 900 (p.take i))∨False)∧H.length≤b∧Grow lo H' w b (ds.map encN)∧∃(z:Nat→Value),S=[.slice ad p.length c0,z 1,w,.int .i64 (i:Nat),z 4,z 5,z 6,z 7,z 8,z 9,z 10,z 11,z 12,z 13,z 14,z 15]) p.length ?_ ?_ ?_ ?_
 ·refine⟨Ext.push _ _,[0],_,H.length,.inl rfl,Nat.le_refl _,Grow.lit (n:=1) (c:=[0].map encN) hlo (get_push_self H _) rfl (by omega),exZSb rfl⟩
 ·rintro i S H' hi ⟨hx,ds,w,b,-,-,-,z,rfl⟩
  exact⟨_,xESg,by simp⟩
 ·rintro i S H' hi ⟨hx,ds,w,b,hds,hb,hgr,z,rfl⟩
  obtain⟨b0,o0,sp0,cap0,xs0,e0,hg0,hx0,hle0⟩:=(hl.mono hx).els 0 (by omega)
  cases e0
  have hxa:=hx0 i hi
  have hds:=hds.resolve_right id
  have hdd:∀d ∈ ds,d<10:=by rw[hds];exact fun d hd=>digs0_lt _ d (List.mem_reverse.1 hd)
  have hdn:0<ds.length:=by
   rw[hds,dec0,List.length_reverse];exact List.length_pos_iff.2 (digs0_ne _)
  have hdl:ds.length≤45:=by
   rw[hds]
   refine dec0_len ?_ (by omega)
   refine Nat.lt_of_lt_of_le (numB_lt hd i (by omega)) (Nat.le_trans (Nat.pow_le_pow_right (by decide) (show i≤15 by omega)) (by decide))
  have hpi:p.getD i 0<900:=by
   rw[List.getD_eq_getElem?_getD,List.getElem?_eq_getElem hi];exact hd _ (List.getElem_mem hi)
  have hnext:=digs0_step (numB 900 (p.take i)) (w:=p.getD i 0)
  rw[←numB_take hi]at hnext
  have hrev:digs0 (numB 900 (p.take i))=ds.reverse:=by rw[hds,dec0,List.reverse_reverse]
  rw[hrev]at hnext
  generalize ha:p.getD i 0=a at *
  obtain⟨hbl,⟨_,h⟩|⟨hpos,⟨sp,rfl,hsp⟩,hgw⟩⟩:=hgr
  ·simp at h;subst h;simp at hdn
  rw[List.length_map]
  have hm0:=mid10_zero ds a
  clear hds hrev hpos
  replace hnext:=Or.inr (a:=False) hnext
  (try simp only[ctlB])
  repeat' ((first|refine xSSg ?_|refine xOSg rfl ?_);(try simp only[ctlB]))
  refine aw_for (fun k S H2=>Ext H H2∧H2.get b=some ((mid10 ds a k).map encN)∧∃(z:Nat→Value),S=[.slice (some ⟨b0,o0,sp0⟩) p.length c0,z 1,.slice (some ⟨b,0,sp⟩) ds.length ds.length,.int .i64 (i:Nat),.int .i64 (mid10c ds a k:Nat),.int .i64 ((ds.length:Int)-1-(k:Nat)),z 6,z 7,z 8,z 9,z 10,z 11,z 12,z 13,z 14,z 15]) ds.length ?_ ?_ ?_ ?_
  ·exact⟨hx,by rw[hm0.1];exact hgw,exZSb (by rw[hm0.2];simp)⟩
  ·rintro k S H2 hk ⟨hx2,-,z,rfl⟩
   exact⟨_,xESg,by simp;omega⟩
  ·rintro k S H2 hk ⟨hx2,hg2,z,rfl⟩
   obtain⟨j,hj,hj2⟩:∃j,j+1+k≤ds.length∧ds.length≤j+1+k:=⟨ds.length-1-k,by omega,by omega⟩
   have hjl:j<ds.length:=by omega
   obtain⟨s1,s2,s3⟩:=mid10_step (ds:=ds) (a:=a) (k:=k) (j:=j) (by omega)
   rw[s1,s2]
   have hcl:=mid10_carry (k:=k) hdd hpi
   have hdj:ds.getD j 0<10:=by
    rw[List.getD_eq_getElem?_getD,List.getElem?_eq_getElem hjl];exact hdd _ (List.getElem_mem hjl)
   have hml:=mid10_len ds a k
   have hxj:((mid10 ds a k).map encN)[j]?=some (encN (ds.getD j 0)):=by
    rw[List.getElem?_map,List.getElem?_eq_getElem (by omega),←s3,List.getD_eq_getElem?_getD,List.getElem?_eq_getElem (by omega)];rfl
   have ej:(ds.length:Int)-1-(k:Nat)=(j:Nat):=by omega
   have hXs:((mid10 ds a k).map encN).set j (encN ((mid10c ds a k+900*ds.getD j 0)%10))=((mid10 ds a k).set j ((mid10c ds a k+900*ds.getD j 0)%10)).map encN:=by rw[List.map_set]
   rw[←hXs]
   clear hXs s1 s2 s3
   generalize hX:(mid10 ds a k).map encN=X at *
   have hXl:j<X.length:=by rw[←hX];simp;omega
   clear hX hml
   generalize mid10c ds a k=C at *
   generalize ds.getD j 0=x at *
   have hl2:=Heap.get_lt hg2
   have hT:(C:Int)+900*(x:Nat)=((C+900*x:Nat):Int):=by simp
   have hTl:C+900*x<9000:=by omega
   have em:((C+900*x:Nat):Int).tmod 10=(((C+900*x)%10:Nat):Int):=Int.ofNat_tmod _ 10
   have et:((C+900*x:Nat):Int).tdiv 10=(((C+900*x)/10:Nat):Int):=Int.ofNat_tdiv _ 10
   rw[←hT]at em et
   clear hT
   have hQ9:(C+900*x)/10<900:=by omega
   have hR9:(C+900*x)%10<10:=by omega
   generalize (C+900*x)%10=R at *
   generalize (C+900*x)/10=Q at *
   (try simp only[ctlB])
   repeat' ((first|refine xSSg ?_|refine xOSg rfl ?_);(try simp only[ctlB]))
   have e2:(j:Int)-1=(ds.length:Int)-1-((k+1:Nat):Int):=by omega
   exact⟨hx2.set (by omega),by rw[get_set_self hl2],exZSb (by rw[e2];rfl)⟩
  ·rintro S H2 ⟨hx2,hg2,z,rfl⟩
   have e1:mid10 ds a ds.length=(scl10 ds.reverse a).1.reverse:=by simp[mid10]
   have e2:mid10c ds a ds.length=(scl10 ds.reverse a).2:=by simp[mid10c]
   have hml:=mid10_len ds a ds.length
   have hcl:=mid10_carry (k:=ds.length) hdd hpi
   rw[e1]at hg2 hml
   rw[e2]at hcl ⊢
   clear e1 e2 hm0
   generalize (scl10 ds.reverse a).1=L at *
   generalize (scl10 ds.reverse a).2=C at *
   simp only[List.length_reverse]at hml
   have hdc:=digs_length_le (B:=10) (by decide) 3 C (by omega)
   (try simp only[ctlB])
   refine aw_loop' (fun m S H3=>Ext H H3∧∃(c:Nat) (cur:List Nat) (w:Value) (b':Nat),m=c∧c<900∧(cur++digs 10 c=L++digs 10 C∨False)∧H.length≤b'∧Grow lo H3 w b' (cur.reverse.map encN)∧∃(z:Nat→Value),S=[.slice (some ⟨b0,o0,sp0⟩) p.length c0,z 1,w,.int .i64 (i:Nat),.int .i64 (c:Nat),z 5,z 6,z 7,z 8,z 9,z 10,z 11,z 12,z 13,z 14,z 15]) C ?_ ?_
   ·exact⟨hx2,C,L,_,b,rfl,hcl,.inl rfl,hb,⟨hbl,.inr ⟨by simp;omega,⟨sp,by simp[hml],hsp⟩,hg2⟩⟩,exZSb rfl⟩
   rintro m S H3 ⟨hx3,_,cur,w,b',rfl,hc9,hcur,hb',hgr,z,rfl⟩
   have hcl2:cur.length≤100:=by
    have:=congrArg List.length (hcur.resolve_right id)
    simp only[List.length_append]at this;omega
   have hlen3:=hx3.1
   by_cases hc0:m=0
   ·subst hc0
    have hfin:=hcur.resolve_right id
    rw[digs_zero,List.append_nil,hnext.resolve_left id]at hfin
    clear hcur
    (try simp only[ctlB])
    refine xCSg (fun h=>?_) (fun h=>?_)
    ·simp at h
    clear h
    (try simp only[ctlB])
    repeat' ((first|refine xSSg ?_|refine xOSg rfl ?_);(try simp only[ctlB]))
    exact⟨hx3,cur.reverse,w,b',.inl (by rw[hfin];rfl),hb',hgr,exZSb (by first|rfl|(simp only[Int.natCast_add,Int.natCast_one];rfl)|simp only[Int.natCast_add,Int.natCast_one])⟩
   ·have hsl:=Grow.sl hgr
    have hdg:=digs_pos (B:=10) (by decide) hc0
    have em:((m:Nat):Int).tmod 10=((m%10:Nat):Int):=Int.ofNat_tmod _ 10
    have et:((m:Nat):Int).tdiv 10=((m/10:Nat):Int):=Int.ofNat_tdiv _ 10
    have hQ9:m/10<900:=by omega
    have hR9:m%10<10:=by omega
    (try simp only[ctlB])
    refine xCSg (fun h=>?_) (fun h=>?_)
    ·clear h
     (try simp only[ctlB])
     repeat' ((first|refine xSSg ?_|refine xOSg rfl ?_);(try simp only[ctlB]))
     have hxn:Ext H3 (H3++[some [Value.int .i64 ((m%10:Nat):Int)],some [Value.int .i64 ((m%10:Nat):Int)]]):=Ext.app _ _
     have hgn:Heap.get (H3++[some [Value.int .i64 ((m%10:Nat):Int)],some [Value.int .i64 ((m%10:Nat):Int)]]) (H3.length+1)=some ([m%10].map encN):=by rw[get_of];simp[encN]
     have hln:(H3++[some [Value.int .i64 ((m%10:Nat):Int)],some [Value.int .i64 ((m%10:Nat):Int)]]).length=H3.length+2:=by simp
     generalize hHn:H3++[some [Value.int .i64 ((m%10:Nat):Int)],some [Value.int .i64 ((m%10:Nat):Int)]]=Hn at *
     clear hHn
     refine xHSg ?_
     refine wpH_appG (enc:=encN) (fun _=>rfl) (A:=H.length) (l:=[m%10]) (b:=H3.length+1) (by omega) (by omega) (by omega) ⟨by omega,.inr ⟨by simp,⟨some 1,rfl,.inr rfl⟩,hgn⟩⟩ (hsl.mono hxn) (by simp;omega) ?_
     intro v' H4 b4 hb4 hg4 hk4
     have hx4:=hk4.ext (hx3.trans hxn) (by omega)
     clear hgr hgn hsl
     (try simp only[ctlB])
     repeat' ((first|refine xSSg ?_|refine xOSg rfl ?_);(try simp only[ctlB]))
     simp only[loopQ_n]
     refine⟨m/10,Nat.div_lt_self (by omega) (by decide),hx4,m/10,cur++[m%10],v',b4,rfl,by omega,.inl ?_,hb4,?_,exZSb rfl⟩
     ·rw[←hcur.resolve_right id,hdg];simp
     ·rw[List.reverse_append];exact hg4
    ·simp only[decide_eq_false_iff_not]at h;omega
 ·rintro S H' ⟨hx,ds,w,b,hds,hb,hgr,z,rfl⟩
  have hds:=hds.resolve_right id
  rw[List.take_length]at hds
  rw[←hds]
  have hdd:∀d ∈ ds,d<10:=by rw[hds];exact fun d hd=>digs0_lt _ d (List.mem_reverse.1 hd)
  have hdn:0<ds.length:=by
   rw[hds,dec0,List.length_reverse];exact List.length_pos_iff.2 (digs0_ne _)
  have hdl:ds.length≤45:=by
   rw[hds]
   refine dec0_len ?_ (by omega)
   have:=numB_lt hd p.length (Nat.le_refl _)
   rw[List.take_length]at this
   exact Nat.lt_of_lt_of_le this (Nat.le_trans (Nat.pow_le_pow_right (by decide) hp) (by decide))
  have hsl:=Grow.sl hgr
  obtain⟨b1,o1,sp1,cap1,xs1,rfl,hg1,hx1,hle1⟩:=hsl.els 0 hdn
  clear hds hgr hsl
  (try simp only[ctlB])
  repeat' ((first|refine xSSg ?_|refine xOSg rfl ?_);(try simp only[ctlB]))
  refine aw_for (fun k S H2=>Ext H' H2∧∃(z:Nat→Value),S=[z 0,z 1,.slice (some ⟨b1,o1,sp1⟩) ds.length cap1,z 3,z 4,z 5,z 6,strV (strD (ds.take k)),.int .i64 (k:Nat),z 9,z 10,z 11,z 12,z 13,z 14,z 15]) ds.length ?_ ?_ ?_ ?_
  ·exact⟨Ext.refl _,exZSb rfl⟩
  ·rintro k S H2 hk ⟨hx2,z,rfl⟩
   exact⟨_,xESg,by simp⟩
  ·rintro k S H2 hk ⟨hx2,z,rfl⟩
   have hxa:=hx1 k hk
   have hg2:=hx2.get hg1
   have hdk:ds.getD k 0<10:=by
    rw[List.getD_eq_getElem?_getD,List.getElem?_eq_getElem hk];exact hdd _ (List.getElem_mem hk)
   have htk:strD (ds.take (k+1))=strD (ds.take k)++[UInt8.ofNat (48+ds.getD k 0)]:=by
    rw[List.take_add_one,List.getElem?_eq_getElem hk,List.getD_eq_getElem?_getD,List.getElem?_eq_getElem hk]
    simp only[strD,List.map_append,Option.toList_some,List.map_cons,List.map_nil,Option.getD_some]
   rw[htk]
   have hsl1:(strD (ds.take k)).length≤45:=by simp[strD];omega
   generalize strD (ds.take k)=X at *
   clear hx1
   generalize ds.getD k 0=x at *
   clear htk
   have eb:lsem .b2s [.slice (some ⟨H2.length,0,none⟩) 1 1] (H2++[some [.int .u8 (48+(x:Int))]])=some (strV [UInt8.ofNat (48+x)]):=by
    simp only[lsem]
    rw[cells_get (get_push_self H2 _) (by simp)]
    simp only[List.drop_zero,List.take_succ_cons,List.take_zero,Option.bind_some,bytesOf,Option.map_some]
    rw[show(48+(x:Int)).toNat=48+x by omega]
   (try simp only[ctlB])
   repeat' ((first|refine xSSg ?_|refine xOSg rfl ?_);(try simp only[ctlB]))
   exact⟨hx2.push' _,exZSb (by first|rfl|(simp only[Int.natCast_add,Int.natCast_one];rfl)|simp only[Int.natCast_add,Int.natCast_one])⟩
  ·rintro S H2 ⟨hx2,z,rfl⟩
   rw[List.take_length]
   (try simp only[ctlB])
   repeat' ((first|refine xSSg ?_|refine xOSg rfl ?_);(try simp only[ctlB]))
   refine xRSg ?_
   exact⟨hx.trans hx2,rfl⟩
theorem eq_take{l m:List Nat}(h:l.length=m.length):l=m↔∀j,j<l.length→l.getD j 0=m.getD j 0:=by
 constructor
 ·rintro rfl j _;rfl
 ·intro h2
  refine List.ext_getElem h fun j h3 h4=>?_
  have:=h2 j h3
  rwa [List.getD_eq_getElem?_getD,List.getD_eq_getElem?_getD,List.getElem?_eq_getElem h3,List.getElem?_eq_getElem h4]at this
theorem sameP{lo:Nat}{H:Heap}{v w:Value}{l m:List Nat}(hlo:lo≤H.length)(hbig:l.length≤100000)(hl:SlN H v l)(hm:SlN H w m) :
  Ev cp lo 28 [v,w] H (fun r H'=>H'=H∧r=.bool (decide (l=m))):=by
 have hl0:=hl
 have hm0:=hm
 obtain⟨ad,c0,rfl⟩:=hl.len
 obtain⟨ae,c1,rfl⟩:=hm.len
 refine st28 ?_;unfold bd28 cf28;simp only[kB,ctlB]
 repeat' ((first|refine xSSg ?_|refine xOSg rfl ?_);(try simp only[ctlB]))
 refine xCSg (fun h=>?_) (fun h=>?_)
 ·have hne:l≠m:=by
   rintro rfl;simp at h
  clear h
  (try simp only[ctlB])
  repeat' ((first|refine xSSg ?_|refine xOSg rfl ?_);(try simp only[ctlB]))
  refine xRSg ?_
  simp[hne,resultOf]
 have hle:l.length=m.length:=by
  simp only[decide_eq_false_iff_not]at h;omega
 have hle2:l.length≤m.length∧m.length≤l.length:=by omega
 have hiff:=eq_take hle
 clear h hle
 (try simp only[ctlB])
 repeat' ((first|refine xSSg ?_|refine xOSg rfl ?_);(try simp only[ctlB]))
 refine aw_for (fun i S H'=>H=H'∧(∀j,j<i→l.getD j 0=m.getD j 0)∧∃(z:Nat→Value),S=[.slice ad l.length c0,.slice ae m.length c1,z 2,.int .i64 (i:Nat)]) l.length ?_ ?_ ?_ ?_
 ·exact⟨rfl,fun j hj=>by omega,exZSb rfl⟩
 ·rintro i S H' hi ⟨rfl,-,z,rfl⟩
  exact⟨_,xESg,by simp⟩
 ·rintro i S H' hi ⟨rfl,hall,z,rfl⟩
  obtain⟨b0,o0,sp0,cap0,xs0,e0,hg0,hx0,hle0⟩:=hl.els 0 (by omega)
  cases e0
  obtain⟨b1,o1,sp1,cap1,xs1,e1,hg1,hx1,hle1⟩:=hm.els 0 (by omega)
  cases e1
  have hxa:=hx0 i hi
  have hxb:=hx1 i (by omega)
  have hi2:i<m.length:=by omega
  (try simp only[ctlB])
  repeat' ((first|refine xSSg ?_|refine xOSg rfl ?_);(try simp only[ctlB]))
  refine xCSg (fun h=>?_) (fun h=>?_)
  ·have hne:l≠m:=by
    intro e
    have:=hiff.1 e i hi
    simp only[decide_eq_true_eq]at h;omega
   clear h hiff
   (try simp only[ctlB])
   repeat' ((first|refine xSSg ?_|refine xOSg rfl ?_);(try simp only[ctlB]))
   refine xRSg ?_
   simp[hne,resultOf]
  ·have he:l.getD i 0=m.getD i 0:=by simp only[decide_eq_false_iff_not]at h;omega
   clear h
   (try simp only[ctlB])
   repeat' ((first|refine xSSg ?_|refine xOSg rfl ?_);(try simp only[ctlB]))
   refine⟨by trivial,fun j hj=>?_,exZSb (by first|rfl|(simp only[Int.natCast_add,Int.natCast_one];rfl)|simp only[Int.natCast_add,Int.natCast_one])⟩
   by_cases e:j=i
   ·subst e;exact he
   ·exact hall j (by omega)
 ·rintro S H' ⟨rfl,hall,z,rfl⟩
  have he:=hiff.2 hall
  clear hiff
  (try simp only[ctlB])
  repeat' ((first|refine xSSg ?_|refine xOSg rfl ?_);(try simp only[ctlB]))
  refine xRSg ?_
  simp[he,resultOf]
theorem rfnumP{lo:Nat}{H:Heap}{v:Value}{l:List Int}(hlo:lo≤H.length)(hl:SlI H v l) :
  Ev cp lo 16 [v] H (fun r H'=>Ext H H'∧r=.tuple #[strV (fromR l).1,.int .i64 (fromR l).2]):=by
 have hl0:=hl
 obtain⟨ad,c0,rfl⟩:=hl.len
 unfold fromR
 refine st16 ?_;unfold bd16 cf16;simp only[kB,ctlB]
 repeat' ((first|refine xSSg ?_|refine xOSg rfl ?_);(try simp only[ctlB]))
 refine xCSg (fun h=>?_) (fun h=>?_)
 ·have hc:8192<l.length:=by simp only[decide_eq_true_eq]at h;omega
  clear h
  (try simp only[ctlB])
  repeat' ((first|refine xSSg ?_|refine xOSg rfl ?_);(try simp only[ctlB]))
  refine xRSg ?_
  rw[if_pos hc]
  exact⟨Ext.refl _,rfl⟩
 have hc:l.length≤8192:=by simp only[decide_eq_false_iff_not]at h;omega
 clear h
 rw[if_neg (by omega)]
 (try simp only[ctlB])
 repeat' ((first|refine xSSg ?_|refine xOSg rfl ?_);(try simp only[ctlB]))
 refine aw_for (fun i S H'=>H=H'∧(∀j,j<i→okW (l.getD j 0)=true)∧∃(z:Nat→Value),S=[.slice ad l.length c0,z 1,z 2,.int .i64 (i:Nat),z 4,z 5,z 6,z 7,z 8,z 9,z 10,z 11,z 12]) l.length ?_ ?_ ?_ ?_
 ·exact⟨rfl,fun j hj=>by omega,exZSb rfl⟩
 ·rintro i S H' hi ⟨rfl,-,z,rfl⟩
  exact⟨_,xESg,by simp⟩
 ·rintro i S H' hi ⟨rfl,hall,z,rfl⟩
  obtain⟨b0,o0,sp0,cap0,xs0,e0,hg0,hx0,hle0⟩:=hl.els 0 (by omega)
  cases e0
  have hxa:=hx0 i hi
  (try simp only[ctlB])
  repeat' ((first|refine xSSg ?_|refine xOSg rfl ?_);(try simp only[ctlB]))
  refine xCSg (fun h=>?_) (fun h=>?_)
  ·have hno:okW (l.getD i 0)=false:=by
    simp only[Bool.or_eq_true,decide_eq_true_eq]at h
    simp only[okW,Bool.and_eq_false_iff,decide_eq_false_iff_not];omega
   clear h
   (try simp only[ctlB])
   repeat' ((first|refine xSSg ?_|refine xOSg rfl ?_);(try simp only[ctlB]))
   refine xRSg ?_
   rw[not_ok hi hno]
   exact⟨Ext.refl _,rfl⟩
  ·have hyes:okW (l.getD i 0)=true:=by
    simp only[Bool.or_eq_false_iff,decide_eq_false_iff_not]at h
    simp only[okW,Bool.and_eq_true,decide_eq_true_eq];omega
   clear h
   (try simp only[ctlB])
   repeat' ((first|refine xSSg ?_|refine xOSg rfl ?_);(try simp only[ctlB]))
   refine⟨by trivial,fun j hj=>?_,exZSb (by first|rfl|(simp only[Int.natCast_add,Int.natCast_one];rfl)|simp only[Int.natCast_add,Int.natCast_one])⟩
   by_cases e:j=i
   ·subst e;exact hyes
   ·exact hall j (by omega)
 rintro S H' ⟨rfl,hall,z,rfl⟩
 have hall:=all_ok hall
 rw[hall]
 have hmem:=List.all_eq_true.1 hall
 have hr:∀w ∈ l,0≤w∧w<900:=fun w hw=>by
  have:=hmem w hw
  simpa only[okW,Bool.and_eq_true,decide_eq_true_eq]using this
 have hln:(l.map Int.toNat).length=l.length:=by simp
 have hsn:=sl_nat hl0 (fun w hw=>(hr w hw).1)
 rw[←hln]at hsn
 rw[←hln]
 have hd:∀d ∈ l.map Int.toNat,d<900:=by
  intro d hd
  obtain⟨w,hw,rfl⟩:=List.mem_map.1 hd
  have:=hr w hw;omega
 have hnl:(l.map Int.toNat).length≤8192:=by omega
 simp only[if_true]
 clear hall hmem hr hl0 hl hc
 generalize l.map Int.toNat=n at *
 clear hln
 (try simp only[ctlB])
 repeat' ((first|refine xSSg ?_|refine xOSg rfl ?_);(try simp only[ctlB]))
 refine aw_loop' (fun m S H'=>Ext H H'∧∃(a:Nat) (D:List UInt8),(n.length≤m+a∧(a≤n.length→m+a≤n.length))∧(fromN n=(fromN (n.drop a)).map (D++·)∨False)∧D.length≤45*a∧a≤8300∧(∃(z:Nat→Value),S=[.slice ad n.length c0,z 1,z 2,z 3,strV D,.int .i64 (a:Nat),z 6,z 7,z 8,z 9,z 10,z 11,z 12])) n.length ?_ ?_
 ·exact⟨Ext.refl _,0,[],by omega,.inl (by simp),by simp,by omega,exZSb rfl⟩
 rintro m S H' ⟨hx,a,D,hm,hs,hD,ha,z,rfl⟩
 have hlen:=hx.1
 by_cases hi:a<n.length
 ·obtain⟨e,he⟩:∃e,min (a+15) n.length=e:=⟨_,rfl⟩
  have he2:a<e∧e≤n.length∧e≤a+15:=by omega
  have emin:lsem (.minmax false) [.int .i64 ((a:Int)+15),.int .i64 (n.length:Nat)] H'=some (.int .i64 (e:Nat)):=by
   simp only[lsem,List.foldlM_cons,List.foldlM_nil,minInt,Bool.false_eq_true,if_false]
   by_cases h:(n.length:Int)<(a:Int)+15
   ·rw[if_pos h];simp;omega
   ·rw[if_neg h];simp;omega
  obtain⟨p,hp⟩:∃p,(n.drop a).take 15=p:=⟨_,rfl⟩
  have hp2:(n.drop a).take (e-a)=p:=by
   rw[←hp]
   rcases Nat.le_total (a+15) n.length with h|h
   ·congr 1;omega
   ·rw[List.take_of_length_le (by simp;omega),List.take_of_length_le (by simp;omega)]
  have hpl:p.length≤15∧0<p.length:=by
   have:=congrArg List.length hp
   simp at this;omega
  have hpd:∀d ∈ p,d<900:=fun d hd'=>hd d (by rw[←hp]at hd';exact List.mem_of_mem_drop (List.mem_of_mem_take hd'))
  have hf:=fromN_pos (l:=n.drop a) (by intro e;have:=congrArg List.length e;simp at this;omega)
  rw[hp,List.drop_drop]at hf
  have hf2:(n.drop a).length=n.length-a:=by simp
  rw[hf2]at hf
  have hfail:∀{b:Bool},okPart b p=false→b=decide (n.length-a≤15)→fromN n=none:=by
   intro b h1 h2
   rw[hs.resolve_right id,hf,←h2,h1];rfl
  obtain⟨sv,hsv,hsl⟩:=sl_subG (hsn.mono hx) (a:=a) (b:=e) rfl rfl (by omega) (by omega)
  rw[hp2]at hsl
  have hrs:=hs.resolve_right id
  clear hs hp hp2 hsn
  (try simp only[ctlB])
  refine xCSg (fun h=>?_) (fun h=>?_)
  ·clear h
   (try simp only[ctlB])
   repeat' ((first|refine xSSg ?_|refine xOSg rfl ?_);(try simp only[ctlB]))
   refine xHSg ?_
   refine wpH_call0 (decP (by omega) hsl hpl.1 hpd) ?_
   rintro r H2 ⟨hx2,rfl⟩
   have hlen2:=hx2.1
   have hsl2:=hsl.mono hx2
   have hXl:(strD (dec0 (numB 900 p))).length=(dec0 (numB 900 p)).length:=by simp[strD]
   have hT0:0<(dec0 (numB 900 p)).length:=by rw[dec0,List.length_reverse];exact List.length_pos_iff.2 (digs0_ne _)
   have hX0:((strD (dec0 (numB 900 p))).getD 0 0).toNat=48+(dec0 (numB 900 p)).getD 0 0:=by
    have hdl:∀d ∈ dec0 (numB 900 p),d<10:=fun d hd=>digs0_lt _ d (List.mem_reverse.1 hd)
    cases hT:dec0 (numB 900 p)with
    | nil=>rw[hT]at hT0;simp at hT0
    | cons d T=>
     have:=hdl d (by rw[hT];simp)
     simp only[strD,List.map_cons,List.getD_cons_zero,UInt8.toNat_ofNat']
     omega
   have hbad:¬ ((dec0 (numB 900 p)).getD 0 0=1∧(dec0 (numB 900 p)).length≤45∧(dec0 (numB 900 p)).length≠1∧(n.length≤a+15∨(dec0 (numB 900 p)).length=45))→okPart (decide (n.length-a≤15)) p=false:=by
    intro hn
    refine okPart_no fun hc=>hn ?_
    have hN:numB 900 p≠0:=by
     intro e;rw[e,dec_zero]at hc;simp at hc
    rw[dec0_of hN]
    refine⟨hc.2.1,hc.2.2.2.1,by omega,?_⟩
    rcases hc.2.2.2.2 with h|h
    ·left;simp only[decide_eq_true_eq]at h;omega
    ·exact .inr h
   have hgood:(dec0 (numB 900 p)).getD 0 0=1→(dec0 (numB 900 p)).length≤45→(dec0 (numB 900 p)).length≠1→(n.length≤a+15∨(dec0 (numB 900 p)).length=45) →
     (okPart (decide (n.length-a≤15)) p=true↔p.getD 0 0≠0)∧partS p=(strD (dec0 (numB 900 p))).drop 1∧(∀b ∈ (strD (dec0 (numB 900 p))).drop 1,isDg b=true)∧(grpW ((strD (dec0 (numB 900 p))).drop 1)=p↔p.getD 0 0≠0):=by
    intro h1 h2 h3 h4
    have hN:numB 900 p≠0:=by
     intro e;rw[e]at h1;simp[dec0,digs0]at h1
    rw[dec0_of hN]at h1 h2 h3 h4 ⊢
    have hT1:0<(dec (numB 900 p)).length:=List.length_pos_iff.2 fun e=>hN (dec_nil.1 e)
    refine⟨?_,by simp only[partS,strD,List.map_drop],?_,?_⟩
    ·rw[okPart_iff]
     simp only[decide_eq_true_eq]
     constructor
     ·exact fun h=>h.1
     ·exact fun h=>⟨h,h1,by omega,h2,by omega⟩
    ·intro b hb
     exact strD_dg _ (dec_lt _) b (List.mem_of_mem_drop hb)
    ·have e1:(strD (dec (numB 900 p))).drop 1=strD ((dec (numB 900 p)).drop 1):=by simp only[strD,List.map_drop]
     rw[e1,grpW,dgt_strD (fun d hd=>dec_lt _ d (List.mem_of_mem_drop hd))]
     have e2:1::(dec (numB 900 p)).drop 1=dec (numB 900 p):=by
      cases hT:dec (numB 900 p)with
      | nil=>rw[hT]at hT1;simp at hT1
      | cons d T=>rw[hT]at h1;simp at h1;subst h1;rfl
     rw[e2,numB_dec]
     constructor
     ·intro e h0
      have:=b900_head (numB 900 p)
      rw[e]at this
      rw[List.getD_eq_getElem?_getD,←List.head?_eq_getElem?]at h0
      cases hp3:p with
      | nil=>rw[hp3]at hpl;simp at hpl
      | cons x y=>rw[hp3]at h0 this;simp at h0 this;exact this h0
     ·intro h0
      refine b900_of hpd fun e=>h0 ?_
      rw[List.getD_eq_getElem?_getD,←List.head?_eq_getElem?,e];rfl
   generalize strD (dec0 (numB 900 p))=X at *
   generalize (dec0 (numB 900 p)).length=TL at *
   generalize (dec0 (numB 900 p)).getD 0 0=T0 at *
   have hXl1:X.length≤TL∧TL≤X.length:=by omega
   clear hXl
   generalize hX0':(X.getD 0 0).toNat=x0 at *
   have hx0':x0≤48+T0∧48+T0≤x0:=by omega
   clear hX0
   (try simp only[ctlB])
   repeat' ((first|refine xSSg ?_|refine xOSg rfl ?_);(try simp only[ctlB]))
   have es:∀G,lsem (.slS true false) [strV X,.int .i64 1] G=some (strV (X.drop 1)):=fun G=>ls_slSa (a:=1) (by omega)
   by_cases hform:T0=1∧TL≤45∧TL≠1∧(n.length≤a+15∨TL=45)
   ·obtain⟨h1,h2,h3,h4⟩:=hgood hform.1 hform.2.1 hform.2.2.1 hform.2.2.2
    have hB:(decide ((x0:Int)≠49) || decide ((45:Int)<(X.length:Nat)) || decide (((X.length:Nat):Int)=1) || !decide (((n.length:Nat):Int)≤(a:Int)+15)&&decide (((X.length:Nat):Int)≠45))=false:=by
     simp only[Bool.or_eq_false_iff,Bool.and_eq_false_iff,decide_eq_false_iff_not,Bool.not_eq_false',decide_eq_true_eq]
     omega
    clear hgood hbad
    refine aw_hv_if (t:=true) (xESg) (by simp(disch:=first|omega|(simp only[lenB];omega))only[evB,xBSg,Nat.reduceAdd,Nat.reduceBEq,Int.reduceToNat, *]) (by simp(disch:=first|omega|(simp only[lenB];omega))only[evB,xBSg,Nat.reduceAdd,Nat.reduceBEq,Int.reduceToNat, *];try rfl) (fun _=>⟨_,xESg,?_⟩) (fun h=>by cases h)
    refine wpH_call0 (groupP (l:=X.drop 1) (by omega) (by simp;omega) h3) ?_
    rintro r H3 ⟨hx3,hr3⟩
    have hlen3:=hx3.1
    (try simp only[ctlB])
    refine aw_hv_if (t:=true) (xESg) (by simp(disch:=first|omega|(simp only[lenB];omega))only[evB,xBSg,Nat.reduceAdd,Nat.reduceBEq,Int.reduceToNat, *]) (by simp(disch:=first|omega|(simp only[lenB];omega))only[evB,xBSg,Nat.reduceAdd,Nat.reduceBEq,Int.reduceToNat, *];try rfl) (fun _=>⟨_,xESg,?_⟩) (fun h=>by cases h)
    refine wpH_call0 (sameP (by omega) (by
     have:=grpW_len_le h3
     rw[List.length_drop]at this;omega) hr3 (hsl2.mono hx3)) ?_
    rintro r2 H4 ⟨rfl,rfl⟩
    have hx4:=hx.trans (hx2.trans hx3)
    by_cases hz:p.getD 0 0=0
    ·have hN:=hfail (by rw[←Bool.not_eq_true,h1];exact fun h=>h hz) rfl
     have hno:¬ grpW (X.drop 1)=p:=fun e=>(h4.1 e) hz
     rw[decide_eq_false hno]
     clear hfail h1 h4 hno hf hrs
     (try simp only[ctlB])
     refine xCSg (fun h=>?_) (fun h=>?_)
     ·clear h
      (try simp only[ctlB])
      repeat' ((first|refine xSSg ?_|refine xOSg rfl ?_);(try simp only[ctlB]))
      refine xRSg ?_
      rw[hN]
      exact⟨hx4,rfl⟩
     ·simp at h
    ·have hyes:=h1.2 hz
     rw[decide_eq_true (h4.2 hz)]
     rw[if_pos hyes]at hf
     clear hfail h1 h4 hyes
     (try simp only[ctlB])
     refine xCSg (fun h=>?_) (fun h=>?_)
     ·simp at h
     clear h
     (try simp only[ctlB])
     have hxd:(X.drop 1).length≤45:=by simp;omega
     repeat' ((first|refine xSSg ?_|refine xOSg rfl ?_);(try simp only[ctlB]))
     simp only[loopQ_n]
     refine⟨n.length-(a+15),by omega,hx4,a+15,D++X.drop 1,by omega,.inl ?_,by simp;omega,by omega,exZSb (by first|rfl|(simp only[Int.natCast_add,Int.natCast_one];rfl)|simp only[Int.natCast_add,Int.natCast_one])⟩
     rw[hrs,hf,h2]
     cases fromN (n.drop (a+15))<;>simp
   ·have hN:=hfail (hbad hform) rfl
    have hB:(decide ((x0:Int)≠49) || decide ((45:Int)<(X.length:Nat)) || decide (((X.length:Nat):Int)=1) || !decide (((n.length:Nat):Int)≤(a:Int)+15)&&decide (((X.length:Nat):Int)≠45))=true:=by
     rw[←Bool.not_eq_false]
     simp only[Bool.or_eq_false_iff,Bool.and_eq_false_iff,decide_eq_false_iff_not,Bool.not_eq_false',decide_eq_true_eq]
     omega
    clear hgood hbad hfail hf hrs hform
    refine aw_hv_if (t:=false) (xESg) (by simp(disch:=first|omega|(simp only[lenB];omega))only[evB,xBSg,Nat.reduceAdd,Nat.reduceBEq,Int.reduceToNat, *]) (by simp(disch:=first|omega|(simp only[lenB];omega))only[evB,xBSg,Nat.reduceAdd,Nat.reduceBEq,Int.reduceToNat, *];try rfl) (fun h=>by cases h) (fun _=>?_)
    (try simp only[ctlB])
    refine aw_hv_if (t:=false) (xESg) (by simp(disch:=first|omega|(simp only[lenB];omega))only[evB,xBSg,Nat.reduceAdd,Nat.reduceBEq,Int.reduceToNat, *]) (by simp(disch:=first|omega|(simp only[lenB];omega))only[evB,xBSg,Nat.reduceAdd,Nat.reduceBEq,Int.reduceToNat, *];try rfl) (fun h=>by cases h) (fun _=>?_)
    simp only[ctlB]
    refine xCSg (fun h=>?_) (fun h=>?_)
    ·clear h
     (try simp only[ctlB])
     repeat' ((first|refine xSSg ?_|refine xOSg rfl ?_);(try simp only[ctlB]))
     refine body_ret (by simp only[cf16];simp(disch:=first|omega|(simp only[lenB];omega))only[evB,xBSg,Nat.reduceAdd,Nat.reduceBEq,Int.reduceToNat, *];rfl) ?_
     rw[hN]
     exact⟨hx.trans hx2,rfl⟩
    ·cases h
  ·simp only[decide_eq_false_iff_not]at h;omega
 ·have hfin:=hs.resolve_right id
  rw[List.drop_eq_nil_of_le (by omega),fromN_nil]at hfin
  (try simp only[ctlB])
  refine xCSg (fun h=>?_) (fun h=>?_)
  ·simp only[decide_eq_true_eq]at h;omega
  clear h hs
  (try simp only[ctlB])
  repeat' ((first|refine xSSg ?_|refine xOSg rfl ?_);(try simp only[ctlB]))
  refine xRSg ?_
  rw[hfin]
  simp only[Option.map_some,List.append_nil]
  exact⟨hx,rfl⟩
end Go.Proofs.YtgpolmomghejoaaDoor
