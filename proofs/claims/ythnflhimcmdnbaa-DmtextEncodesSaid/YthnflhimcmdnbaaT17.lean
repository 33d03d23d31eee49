/- Dmtext: lists of numbers; Pad. Dmtext: the reference's Pad. -/
import Derived.Test.YthnflhimcmdnbaaT16
set_option linter.unusedVariables false
set_option linter.unusedSimpArgs false
set_option linter.unusedSectionVars false
namespace Go.Proofs.Ythnflhimcmdnbaa
open Go.Abs
set_option linter.unusedSimpArgs false
set_option linter.unusedVariables false
set_option maxRecDepth 20000
theorem ints{lo:Nat}{H:Heap}{va vb:Value}{a b:List Int}(ha:SlI H va a)(hb:SlI H vb b)(hsm:a.length≤1000000000)(hbm:b.length≤1000000000):Ev cp lo 13 [va,vb] H (fun v H'=>H'=H∧v=.bool (decide (a=b))):=by
 have ha0:=ha
 have hb0:=hb
 obtain⟨ada,ca,rfl⟩:=ha.len
 obtain⟨adb,cb,rfl⟩:=hb.len
 refine st13 ?_;unfold bd13 cf13;simp only[kB,ctlB]
 repeat' ((first|refine xSDg ?_|refine xODg rfl ?_);(try simp only[ctlB]))
 refine xCDg (fun h=>?_) (fun h=>?_)
 ·have hne:¬ a=b:=by
   rintro rfl;simp at h
  clear h
  (try simp only[ctlB])
  repeat' ((first|refine xSDg ?_|refine xODg rfl ?_);(try simp only[ctlB]))
  refine xRDg ?_
  exact⟨rfl,by simp[resultOf,hne]⟩
 have hlen:a.length≤b.length∧b.length≤a.length:=by simp at h;omega
 clear h
 (try simp only[ctlB])
 repeat' ((first|refine xSDg ?_|refine xODg rfl ?_);(try simp only[ctlB]))
 refine aw_for (fun i S H'=>H=H'∧(∀j,j<i→a.getD j 0=b.getD j 0)∧S=[.slice ada a.length ca,.slice adb b.length cb,.bool false,.int .i64 (i:Nat)]) a.length ?_ ?_ ?_ ?_
 ·exact⟨rfl,by omega,rfl⟩
 ·rintro i S H' hi ⟨rfl,-,rfl⟩
  exact⟨_,xEDg,by simp⟩
 ·rintro i S H' hi ⟨rfl,hall,rfl⟩
  obtain⟨xb,xo,xsp,xc,xs,e1,g1,f1,l1⟩:=ha0.els 0 (by omega)
  obtain⟨yb,yo,ysp,yc,ys,e2,g2,f2,l2⟩:=hb0.els 0 (by omega)
  cases e1
  cases e2
  have k1:=f1 i hi
  have k2:=f2 i (by omega)
  clear f1 f2
  (try simp only[ctlB])
  refine xCDg (fun h=>?_) (fun h=>?_)
  ·have hne:¬ a=b:=by
    rintro rfl;simp at h
   clear h
   (try simp only[ctlB])
   repeat' ((first|refine xSDg ?_|refine xODg rfl ?_);(try simp only[ctlB]))
   refine xRDg ?_
   exact⟨rfl,by simp[resultOf,hne]⟩
  ·have he:a.getD i 0=b.getD i 0:=by simpa using h
   clear h k1 k2
   (try simp only[ctlB])
   repeat' ((first|refine xSDg ?_|refine xODg rfl ?_);(try simp only[ctlB]))
   refine⟨by trivial,fun j hj=>?_,(by first|rfl|(simp only[Int.natCast_add,Int.natCast_one];rfl)|simp only[Int.natCast_add,Int.natCast_one])⟩
   by_cases e:j=i
   ·subst e;exact he
   ·exact hall j (by omega)
 ·rintro S H' ⟨rfl,hall,rfl⟩
  have hab:a=b:=by
   apply List.ext_getElem (by omega)
   intro i h1 h2
   have:=hall i h1
   simpa[List.getD_eq_getElem?_getD,List.getElem?_eq_getElem h1,List.getElem?_eq_getElem h2]using this
  (try simp only[ctlB])
  repeat' ((first|refine xSDg ?_|refine xODg rfl ?_);(try simp only[ctlB]))
  refine xRDg ?_
  exact⟨rfl,by simp[resultOf,hab]⟩
theorem encN_sli{H:Heap}{v:Value}{l:List Nat}(h:Sl encN H v l):SlI H v (l.map (fun i:Nat=>(i:Int))):=by
 rcases h with ⟨rfl,rfl⟩|⟨b,o,sp,cap,xs,h1,h2,h3,h4,h5⟩
 ·exact .inl ⟨rfl,rfl⟩
 ·refine .inr ⟨b,o,sp,cap,xs,by rw[h1];simp,h2,?_,by simpa using h4,by simpa using h5⟩
  rw[List.length_map,h3,List.map_map];rfl
theorem set_get_self{H:Heap}{d:Nat}{c:List Value}(h:H.get d=some c):H.set d (some c)=H:=by
 have hl:=Heap.get_lt h
 apply List.ext_getElem (by simp)
 intro i h1 h2
 rw[List.getElem_set]
 split
 ·rename_i e
  subst e
  rw[get_of,List.getElem?_eq_getElem hl]at h
  revert h
  cases H[d]with
  | none=>intro h;simp at h
  | some x=>intro h;simp at h;rw[h]
 ·rfl
theorem wpH_cpyI{cp:FuncId→Option CF}{lo:Nat}{H:Heap}{v:Value}{p D:List Int}{d n c:Nat}{R:Value→Heap→Prop}(hlo:lo≤d)(hd:H.get d=some (intL D))(hn:D.length=n)(hp:SlI H v p)(k:∀w,R w (H.set d (some (intL (p.take n++D.drop (min p.length n)))))):wpH cp lo (.cpy 1) [.slice (some ⟨d,0,none⟩) n c,v] H R:=by
 simp only[wpH]
 rcases hp with ⟨rfl,rfl⟩|⟨b,o,sp,cap,xs,rfl,hb,hx,hlen,-⟩
 ·simp only[hsem0,hsem,if_true]
  have:=k (.int .i64 0)
  simp only[List.length_nil,Nat.zero_min,List.take_nil,List.drop_zero,List.nil_append]at this
  rwa [set_get_self hd]at this
 ·rw[hs_cpy hlo,hb,hd]
  have hx2:(xs.drop o).take (min p.length n*1)=intL (p.take n):=by
   have:((xs.drop o).take p.length).take n=(p.map (Value.int .i64)).take n:=by rw[hx]
   rw[List.take_take,←List.map_take]at this
   rw[Nat.mul_one,Nat.min_comm];exact this
  have h1:o+min p.length n*1≤xs.length:=by omega
  have h2:0+min p.length n*1≤(intL D).length:=by rw[intL_len];omega
  simp only[h1,h2,hx2,intL_one',and_self,if_true]
  have hpc:putCells (intL D) 0 (intL (p.take n))=intL (p.take n++D.drop (min p.length n)):=by
   rw[putCells_0,intL_app,intL_drop,intL_len,List.length_take,Nat.min_comm]
  rw[hpc]
  exact k _
theorem slI_at{H:Heap}{v:Value}{l:List Int}{k:Nat}(h:SlI H v l)(hk:k<l.length):∃b o xs,lsem (.iAddr 1) [v,.int .i64 (k:Nat)] H=some (.pointer (some ⟨b,o,none⟩))∧H.get b=some xs∧xs[o]?=some (.int .i64 (l.getD k 0)):=by
 obtain⟨b,o,sp,cap,xs,rfl,h2,h3,h4⟩:=h.els 0 (by omega)
 refine⟨b,o+k,xs,?_,h2,h3 k hk⟩
 rw[ls_iAddr (by omega) (by omega)];simp
def cwB(l:List Int):Bool:=l.all fun x=>decide (0≤x)&&decide (x≤255)
def padN(k i:Nat):Nat:=if i=k then 129 else if 130+149*(i+1)%253>254 then 130+149*(i+1)%253-254 else 130+149*(i+1)%253
abbrev padV(k i:Nat):Int:=(padN k i:Nat)
def padL(l:List Int)(m:Nat):List Int:=l++(List.range m).map fun j=>padV l.length (l.length+j)
theorem padL_len(l:List Int)(m:Nat):(padL l m).length=l.length+m:=by simp[padL]
theorem padL_succ(l:List Int)(m:Nat):padL l (m+1)=padL l m++[padV l.length (l.length+m)]:=by
 unfold padL;rw[List.range_succ,List.map_append,List.append_assoc];rfl
def padT(l:List Int)(n:Int):Int ⊕ List Int:=if cwB l=false then .inl 3 else if n>8192 then .inl 4 else if n<l.length then .inl 16 else .inr (padL l (n.toNat-l.length))
def isPad(H':Heap)(r:Value):Int ⊕ List Int→Prop
 | .inl e=>r=.tuple #[.slice none 0 0,.int .i64 e]
 | .inr w=>∃u,r=.tuple #[u,.int .i64 0]∧SlI H' u w
theorem cwB_take{l:List Int}{k:Nat}(hk:k<l.length)(h:cwB (l.take k)=true):cwB (l.take (k+1))=(decide (0≤l.getD k 0)&&decide (l.getD k 0≤255)):=by
 unfold cwB at *
 rw[List.take_succ_eq_append_getElem hk,List.all_append,h]
 simp[List.getD_eq_getElem?_getD,hk]
theorem cwB_no{l:List Int}{k:Nat}(hk:k<l.length)(h:(decide (0≤l.getD k 0)&&decide (l.getD k 0≤255))=false):cwB l=false:=by
 rw[Bool.eq_false_iff]
 intro h2
 have:=List.all_eq_true.1 h2 (l.getD k 0) (by rw[List.getD_eq_getElem?_getD,List.getElem?_eq_getElem hk];exact List.getElem_mem hk)
 rw[this]at h
 cases h
section
variable {lo:Nat}{H:Heap}{v:Value}{l:List Int}
theorem padP{n:Int}(hv:SlI H v l)(hl:l.length≤100000)(hn:IntKind.i64.min≤n∧n≤IntKind.i64.max)(hlo:lo≤H.length):Ev cp lo 14 [v,.int .i64 n] H (fun r H'=>Ext H H'∧isPad H' r (padT l n)):=by
 obtain⟨ad,c,ev⟩:=hv.len
 have hv0:=hv
 rw[ev]at hv ⊢
 refine st14 ?_;unfold bd14 cf14;simp only[kB,ctlB]
 repeat' ((first|refine xSDg ?_|refine xODg rfl ?_);(try simp only[ctlB]))
 refine aw_for (fun k S H'=>(H=H'∧cwB (l.take k)=true)∧∃(z:Nat→Value),S=[.slice ad l.length c,.int .i64 n,z 2,z 3,z 4,z 5,z 6,.slice ad l.length c,.int .i64 (l.length:Nat),.int .i64 (k:Nat),z 10]) l.length ⟨⟨rfl,rfl⟩,exZDe rfl⟩ ?_ ?_ ?_
 ·rintro k S H' hk ⟨_,z,rfl⟩
  exact⟨decide ((k:Int)<(l.length:Nat)),by simp(disch:=first|omega|(simp only[lenB];omega))only[evB,xBDc,Nat.reduceAdd,Nat.reduceBEq,Int.reduceToNat, *],by simp⟩
 ·rintro k S H' hk ⟨⟨rfl,hcw⟩,z,rfl⟩
  have hcw2:=cwB_take hk hcw
  have hno:=cwB_no hk
  obtain⟨b1,o1,x1,i1,g1,e1⟩:=slI_at hv hk
  generalize l.getD k 0=x at e1 hcw2 hno
  replace hno:False∨_:=.inr hno
  clear hcw
  (try simp only[ctlB])
  repeat' ((first|refine xSDg ?_|refine xODg rfl ?_);(try simp only[ctlB]))
  by_cases hx:0≤x∧x≤255
  ·obtain⟨hx1,hx2⟩:=hx
   rw[decide_eq_true hx1,decide_eq_true hx2]at hcw2
   have hd1:decide (x<0)=false:=decide_eq_false (by omega)
   have hd2:decide (x>255)=false:=decide_eq_false (by omega)
   have hd3:decide (255<x)=false:=decide_eq_false (by omega)
   refine xCDg (fun h=>?_) (fun h=>?_)
   ·exfalso;first|(simp at h;done)|cases h
   clear h hd1 hd2 hd3
   (try simp only[ctlB])
   repeat' ((first|refine xSDg ?_|refine xODg rfl ?_);(try simp only[ctlB]))
   exact⟨⟨trivial,hcw2⟩,exZDe (by first|rfl|(simp only[Int.natCast_add,Int.natCast_one];rfl)|simp only[Int.natCast_add,Int.natCast_one])⟩
  ·have hc:cwB l=false:=hno.resolve_left id (by
    simp only[Bool.and_eq_false_iff,decide_eq_false_iff_not];omega)
   have hd:(decide (x<0) || decide (x>255))=true:=by simp;omega
   refine xCDg (fun h=>?_) (fun h=>?_)
   ·(try simp only[ctlB])
    repeat' ((first|refine xSDg ?_|refine xODg rfl ?_);(try simp only[ctlB]))
    refine xRDg ?_
    exact⟨Ext.refl _,by unfold padT;rw[hc];rfl⟩
   ·exfalso;first|(simp at h;omega)|cases h
 ·rintro S H' ⟨⟨rfl,hcw⟩,z,rfl⟩
  rw[List.take_length]at hcw
  unfold padT
  rw[hcw]
  simp only[Bool.true_eq_false,if_false]
  clear hcw
  (try simp only[ctlB])
  by_cases h8:n>8192
  ·have hd:decide (n>8192)=true:=decide_eq_true h8
   rw[if_pos h8]
   refine xCDg (fun h=>?_) (fun h=>?_)
   ·(try simp only[ctlB])
    repeat' ((first|refine xSDg ?_|refine xODg rfl ?_);(try simp only[ctlB]))
    refine xRDg ?_
    exact⟨Ext.refl _,rfl⟩
   ·exfalso;simp at h
  have hd:decide (n>8192)=false:=decide_eq_false h8
  rw[if_neg h8]
  refine xCDg (fun h=>?_) (fun h=>?_)
  ·exfalso;simp at h
  clear h hd
  (try simp only[ctlB])
  by_cases hnl:n<l.length
  ·have hd:decide (n<(l.length:Nat))=true:=decide_eq_true hnl
   rw[if_pos hnl]
   refine xCDg (fun h=>?_) (fun h=>?_)
   ·(try simp only[ctlB])
    repeat' ((first|refine xSDg ?_|refine xODg rfl ?_);(try simp only[ctlB]))
    refine xRDg ?_
    exact⟨Ext.refl _,rfl⟩
   ·exfalso;simp at h
  have hd:decide (n<(l.length:Nat))=false:=decide_eq_false hnl
  rw[if_neg hnl]
  refine xCDg (fun h=>?_) (fun h=>?_)
  ·exfalso;simp at h
  clear h hd
  obtain⟨m,rfl⟩:∃m:Nat,n=((l.length+m:Nat):Int):=⟨n.toNat-l.length,by omega⟩
  rw[show(((l.length+m:Nat):Int)).toNat-l.length=m by omega]
  replace hnl:l.length+m≤8192:=by omega
  replace h8:m≤8192:=by omega
  (try simp only[ctlB])
  repeat' ((first|refine xSDg ?_|refine xODg rfl ?_);(try simp only[ctlB]))
  have hxb:Ext H (H++[some (intL (List.replicate (l.length+m) 0))]):=Ext.app _ _
  have hg0:(H++[some (intL (List.replicate (l.length+m) 0))]).get H.length=some (intL (List.replicate (l.length+m) 0)):=get_app0
  generalize H++[some (intL (List.replicate (l.length+m) 0))]=H0 at hxb hg0
  have hbl:=Heap.get_lt hg0
  refine xHDg ?_
  rw[←ev]
  refine wpH_cpyI hlo hg0 (by simp) (hv0.mono hxb) ?_
  intro w
  rw[ev]
  have hcp:l.take (l.length+m)++(List.replicate (l.length+m) 0).drop (min l.length (l.length+m))=padL l 0++List.replicate (m-0) 0:=by
   rw[List.take_of_length_le (by omega),Nat.min_eq_left (by omega),List.drop_replicate,Nat.sub_zero,show l.length+m-l.length=m by omega]
   simp[padL]
  rw[hcp]
  have hx1:Ext H (List.set H0 H.length (some (intL (padL l 0++List.replicate (m-0) 0)))):=keepSet.ext hxb (Nat.le_refl _)
  have hg1:Heap.get (List.set H0 H.length (some (intL (padL l 0++List.replicate (m-0) 0)))) H.length=some (intL (padL l 0++List.replicate (m-0) 0)):=get_set_self hbl
  generalize List.set H0 H.length (some (intL (padL l 0++List.replicate (m-0) 0)))=H1 at hx1 hg1
  clear hg0 hcp hxb hbl
  (try simp only[ctlB])
  repeat' ((first|refine xSDg ?_|refine xODg rfl ?_);(try simp only[ctlB]))
  refine aw_for (fun j S H'=>(Ext H H'∧H'.get H.length=some (intL (padL l j++List.replicate (m-j) 0)))∧∃(z:Nat→Value),S=[.slice ad l.length c,.int .i64 ((l.length+m:Nat):Int),z 2,z 3,z 4,.slice (some ⟨H.length,0,none⟩) (l.length+m) (l.length+m),.int .i64 ((l.length+j:Nat):Int),z 7,z 8,z 9,z 10]) m ⟨⟨hx1,hg1⟩,exZDe (by first|rfl|(simp only[Int.natCast_add,Int.natCast_one];rfl)|simp only[Int.natCast_add,Int.natCast_one])⟩ ?_ ?_ ?_
  ·rintro j S H' hj ⟨_,z,rfl⟩
   exact⟨decide (((l.length+j:Nat):Int)<((l.length+m:Nat):Int)),by simp(disch:=first|omega|(simp only[lenB];omega))only[evB,xBDc,Nat.reduceAdd,Nat.reduceBEq,Int.reduceToNat, *],by simp⟩
  ·rintro j S H2 hj ⟨⟨hx2,hg2⟩,z,rfl⟩
   clear hg1 hx1
   have hbl:=Heap.get_lt hg2
   have hset:∀y,(intL (padL l j++List.replicate (m-j) 0)).set (l.length+j) (.int .i64 y)=intL ((padL l j++[y])++List.replicate (m-(j+1)) 0):=by
    intro y
    rw[show m-j=(m-(j+1))+1 by omega,List.replicate_succ]
    unfold intL
    rw[List.map_append,List.set_append_right _ _ (by simp[padL_len]),List.length_map,padL_len,Nat.sub_self]
    simp
   have hYl:(intL (padL l j++List.replicate (m-j) 0)).length≤l.length+m∧l.length+m≤(intL (padL l j++List.replicate (m-j) 0)).length:=by
    rw[intL_len,List.length_append,padL_len,List.length_replicate];omega
   rw[padL_succ]
   replace hset:False∨_:=.inr hset
   obtain⟨i,hi⟩:∃i,False∨l.length+j=i:=⟨_,.inr rfl⟩
   rw[hi.resolve_left id]at hset ⊢
   have hil:i<l.length+m:=by have:=hi.resolve_left id;omega
   generalize intL (padL l j++List.replicate (m-j) 0)=Y at hg2 hYl hset
   have hY1:∀y,(Y.set i (.int .i64 y))[i]?=some (.int .i64 y):=fun y=>by rw[List.getElem?_set_self (by omega)]
   have hfin:False∨∀(y:Int) (H':Heap),y=padV l.length i→Ext H H'→H'.get H.length=some (Y.set i (.int .i64 y))→(Ext H H'∧H'.get H.length=some (intL ((padL l j++[padV l.length i])++List.replicate (m-(j+1)) 0))):=by
    right
    intro y H' hy h1 h2
    subst hy
    exact⟨h1,by rw[h2,hset.resolve_left id]⟩
   have hpv:False∨padN l.length i=if i=l.length then 129 else if 130+149*(i+1)%253>254 then 130+149*(i+1)%253-254 else 130+149*(i+1)%253:=.inr rfl
   have hi2:((i+1:Nat):Int)=((l.length+(j+1):Nat):Int):=by have:=hi.resolve_left id;omega
   rw[←hi2]
   clear hi2
   have hll:Ext H (List.set H2 H.length (some (Y.set i (.int .i64 129)))):=keepSet.ext hx2 (Nat.le_refl _)
   have em:(149*((i:Int)+1)).tmod 253=((149*(i+1)%253:Nat):Int):=by rw[Int.tmod_eq_emod_of_nonneg (by omega)];omega
   have hq:149*(i+1)%253≤252:=by omega
   generalize 149*(i+1)%253=q at em hq hpv
   (try simp only[ctlB])
   repeat' ((first|refine xSDg ?_|refine xODg rfl ?_);(try simp only[ctlB]))
   have hgY:=hY1 129
   have hYl1:(Y.set i (.int .i64 129)).length≤l.length+m∧l.length+m≤(Y.set i (.int .i64 129)).length:=by simp;omega
   have hg3:Heap.get (List.set H2 H.length (some (Y.set i (.int .i64 129)))) H.length=some (Y.set i (.int .i64 129)):=get_set_self hbl
   have hbl3:=Heap.get_lt hg3
   by_cases hj0:i=l.length
   ·have hd:decide ((i:Int)>(l.length:Nat))=false:=decide_eq_false (by omega)
    have hp:=hpv.resolve_left id
    rw[if_pos hj0]at hp
    have hfi:=hfin.resolve_left id 129 _ (by unfold padV;rw[hp];rfl) hll hg3
    generalize List.set H2 H.length (some (Y.set i (.int .i64 129)))=H3 at hfi hg3 hbl3
    generalize Y.set i (.int .i64 129)=Y1 at hgY hYl1 hg3
    replace hfi:False∨_:=.inr hfi
    replace hj0:i≤l.length∧l.length≤i:=by omega
    clear hp hY1
    refine xCDg (fun h=>?_) (fun h=>?_)
    ·exfalso;simp at h
    clear h hd
    (try simp only[ctlB])
    repeat' ((first|refine xSDg ?_|refine xODg rfl ?_);(try simp only[ctlB]))
    refine xCDg (fun h=>?_) (fun h=>?_)
    ·exfalso;simp at h
    clear h
    (try simp only[ctlB])
    repeat' ((first|refine xSDg ?_|refine xODg rfl ?_);(try simp only[ctlB]))
    exact⟨hfi.resolve_left id,exZDe (by first|rfl|(simp only[Int.natCast_add,Int.natCast_one];rfl)|simp only[Int.natCast_add,Int.natCast_one])⟩
   ·have hd:decide ((i:Int)>(l.length:Nat))=true:=decide_eq_true (by have:=hi.resolve_left id;omega)
    have hp:=hpv.resolve_left id
    rw[if_neg hj0]at hp
    have hss:∀y,(Y.set i (.int .i64 129)).set i (.int .i64 y)=Y.set i (.int .i64 y):=fun y=>List.set_set ..
    generalize hY1e:Y.set i (.int .i64 129)=Y1 at hgY hYl1 hg3 hss
    have hx3:Ext H (List.set H2 H.length (some Y1)):=by rw[←hY1e];exact hll
    generalize List.set H2 H.length (some Y1)=H3 at hg3 hbl3 hx3
    clear hY1e hll hg2 hbl hbl3
    have hbl3:=Heap.get_lt hg3
    replace hp:False∨_:=.inr hp
    replace hss:False∨_:=.inr hss
    refine xCDg (fun h=>?_) (fun h=>?_)
    ·clear h hd
     (try simp only[ctlB])
     repeat' ((first|refine xSDg ?_|refine xODg rfl ?_);(try simp only[ctlB]))
     rw[show(129:Int)+((q:Int)+1)=((130+q:Nat):Int) by omega]
     generalize hw:130+q=w at hp
     replace hw:w≤382∧q≤w:=by omega
     clear em hpv hY1
     have hgY2:(Y1.set i (.int .i64 (w:Nat)))[i]?=some (.int .i64 (w:Nat)):=by rw[List.getElem?_set_self (by omega)]
     have hg4:Heap.get (List.set H3 H.length (some (Y1.set i (.int .i64 (w:Nat))))) H.length=some (Y1.set i (.int .i64 (w:Nat))):=get_set_self hbl3
     have hx4:Ext H (List.set H3 H.length (some (Y1.set i (.int .i64 (w:Nat))))):=keepSet.ext hx3 (Nat.le_refl _)
     have hbl4:=Heap.get_lt hg4
     have hYl2:(Y1.set i (.int .i64 (w:Nat))).length≤l.length+m∧l.length+m≤(Y1.set i (.int .i64 (w:Nat))).length:=by simp;omega
     have hss2:False∨∀y,(Y1.set i (.int .i64 (w:Nat))).set i (.int .i64 y)=Y1.set i (.int .i64 y):=.inr (fun y=>List.set_set ..)
     generalize List.set H3 H.length (some (Y1.set i (.int .i64 (w:Nat))))=H4 at hg4 hx4 hbl4
     by_cases h254:w>254
     ·have hd:decide ((w:Int)>254)=true:=decide_eq_true (by omega)
      have hp2:=hp.resolve_left id
      rw[if_pos h254]at hp2
      have e2:=hss.resolve_left id (w:Nat)
      generalize Y1.set i (.int .i64 (w:Nat))=Y2 at hgY2 hg4 hYl2 hss2 e2
      clear hgY hg3 hbl3 hp e2
      replace hp2:False∨_:=.inr hp2
      refine xCDg (fun h=>?_) (fun h=>?_)
      ·clear h hd
       (try simp only[ctlB])
       repeat' ((first|refine xSDg ?_|refine xODg rfl ?_);(try simp only[ctlB]))
       have hfi:=hfin.resolve_left id ((w:Int)-254) (List.set H4 H.length (some (Y2.set i (.int .i64 ((w:Int)-254))))) (by unfold padV;rw[hp2.resolve_left id];omega) (keepSet.ext hx4 (Nat.le_refl _)) (by rw[get_set_self hbl4,hss2.resolve_left id,hss.resolve_left id])
       exact⟨hfi,exZDe (by first|rfl|(simp only[Int.natCast_add,Int.natCast_one];rfl)|simp only[Int.natCast_add,Int.natCast_one])⟩
      ·exfalso;simp at h
     ·have hd:decide ((w:Int)>254)=false:=decide_eq_false (by omega)
      have hp2:=hp.resolve_left id
      rw[if_neg h254]at hp2
      have hfi:=hfin.resolve_left id (w:Nat) H4 (by unfold padV;rw[hp2]) hx4 (by rw[hg4,hss.resolve_left id])
      replace hfi:False∨_:=.inr hfi
      clear hp2 hp
      generalize Y1.set i (.int .i64 (w:Nat))=Y2 at hgY2 hg4 hYl2 hss2
      refine xCDg (fun h=>?_) (fun h=>?_)
      ·exfalso;simp at h
      ·clear h hd
       (try simp only[ctlB])
       repeat' ((first|refine xSDg ?_|refine xODg rfl ?_);(try simp only[ctlB]))
       exact⟨hfi.resolve_left id,exZDe (by first|rfl|(simp only[Int.natCast_add,Int.natCast_one];rfl)|simp only[Int.natCast_add,Int.natCast_one])⟩
    ·exfalso;simp at h
  ·rintro S H2 ⟨⟨hx2,hg2⟩,z,rfl⟩
   rw[Nat.sub_self,List.replicate_zero,List.append_nil]at hg2
   have hsl:SlI H2 (.slice (some ⟨H.length,0,none⟩) (l.length+m) (l.length+m)) (padL l m):=Sl.whole hg2 (padL_len l m)
   clear hg2
   (try simp only[ctlB])
   repeat' ((first|refine xSDg ?_|refine xODg rfl ?_);(try simp only[ctlB]))
   refine xRDg ?_
   exact⟨hx2,_,rfl,hsl⟩
end
end Go.Proofs.Ythnflhimcmdnbaa
namespace Go.Proofs.Ythnflhimcmdnbaa
open Go.Abs
set_option linter.unusedSimpArgs false
set_option linter.unusedVariables false
set_option maxRecDepth 20000
section
variable {lo:Nat}{H:Heap}{v:Value}{l:List Int}
theorem rcwP(hv:SlI H v l)(hl:l.length≤100000):Ev cp lo 23 [v] H (fun r H'=>H=H'∧r=.bool (cwB l)):=by
 obtain⟨ad,c,ev⟩:=hv.len
 rw[ev]at hv ⊢
 refine st23 ?_;unfold bd23 cf23;simp only[kB,ctlB]
 repeat' ((first|refine xSDg ?_|refine xODg rfl ?_);(try simp only[ctlB]))
 refine aw_for (fun k S H'=>(H=H'∧cwB (l.take k)=true)∧∃(z:Nat→Value),S=[.slice ad l.length c,z 1,.int .i64 (k:Nat)]) l.length ⟨⟨rfl,rfl⟩,exZDe rfl⟩ ?_ ?_ ?_
 ·rintro k S H' hk ⟨_,z,rfl⟩
  exact⟨decide ((k:Int)<(l.length:Nat)),by simp(disch:=first|omega|(simp only[lenB];omega))only[evB,xBDc,Nat.reduceAdd,Nat.reduceBEq,Int.reduceToNat, *],by simp⟩
 ·rintro k S H' hk ⟨⟨rfl,hcw⟩,z,rfl⟩
  have hcw2:=cwB_take hk hcw
  have hno:=cwB_no hk
  obtain⟨b1,o1,x1,i1,g1,e1⟩:=slI_at hv hk
  generalize l.getD k 0=x at e1 hcw2 hno
  replace hno:False∨_:=.inr hno
  clear hcw
  (try simp only[ctlB])
  by_cases hx:0≤x∧x≤255
  ·obtain⟨hx1,hx2⟩:=hx
   rw[decide_eq_true hx1,decide_eq_true hx2]at hcw2
   have hd1:decide (x<0)=false:=decide_eq_false (by omega)
   have hd2:decide (x>255)=false:=decide_eq_false (by omega)
   have hd3:decide (255<x)=false:=decide_eq_false (by omega)
   refine xCDg (fun h=>?_) (fun h=>?_)
   ·exfalso;first|(simp at h;done)|cases h
   clear h hd1 hd2 hd3
   (try simp only[ctlB])
   repeat' ((first|refine xSDg ?_|refine xODg rfl ?_);(try simp only[ctlB]))
   exact⟨⟨trivial,hcw2⟩,exZDe (by first|rfl|(simp only[Int.natCast_add,Int.natCast_one];rfl)|simp only[Int.natCast_add,Int.natCast_one])⟩
  ·have hc:cwB l=false:=hno.resolve_left id (by
    simp only[Bool.and_eq_false_iff,decide_eq_false_iff_not];omega)
   have hd:(decide (x<0) || decide (x>255))=true:=by simp;omega
   rw[hc]
   refine xCDg (fun h=>?_) (fun h=>?_)
   ·(try simp only[ctlB])
    repeat' ((first|refine xSDg ?_|refine xODg rfl ?_);(try simp only[ctlB]))
    refine xRDg ?_
    exact⟨rfl,rfl⟩
   ·exfalso;first|(simp at h;omega)|cases h
 ·rintro S H' ⟨⟨rfl,hcw⟩,z,rfl⟩
  rw[List.take_length]at hcw
  rw[hcw]
  clear hcw
  (try simp only[ctlB])
  repeat' ((first|refine xSDg ?_|refine xODg rfl ?_);(try simp only[ctlB]))
  refine xRDg ?_
  exact⟨rfl,rfl⟩
theorem appNil{cp:FuncId→Option CF}{z:List Value}{R:Value→Heap→Prop}(hv:SlI H v l)(hlo:lo≤H.length)(hl:l.length≤100000)
  (k:∀w H',Own lo 1 H' w H.length (intL l)→Ext H H'→(H'.length=H.length∧l=[]∨H'.length=H.length+1)→R w H'):wpH cp lo (.app 1 z) [.slice none 0 0,v] H R:=by
 rcases hv with ⟨rfl,rfl⟩|⟨b,o,sp,cap,xs,rfl,hb,hx,hlen,-⟩
 ·simp only[wpH,hsem0,hsem,appendSem]
  exact k _ _ (Own.nil hlo) (Ext.refl _) (.inl ⟨rfl,rfl⟩)
 ·by_cases h0:l.length=0
  ·have:l=[]:=List.length_eq_zero_iff.1 h0
   subst this
   have e1:H.cells b o (0*1)=some []:=by rw[cells_get hb (by simpa using hlen)];simp
   simp only[wpH,hsem0,hsem,List.length_nil,e1,Option.bind_some,appendSem]
   exact k _ _ (Own.nil hlo) (Ext.refl _) (.inl ⟨rfl,rfl⟩)
  ·refine wpH_app (Own.nil (b:=H.length) hlo) hlo (by omega) (by omega) (by simp;omega) hb (c:=intL l) (by omega) (by rw[Nat.mul_one];exact hx) (intL_one' l) ?_
   intro w H' ho hk hl'
   exact k w H' (by simpa using ho) (hk.ext (Ext.refl _) (Nat.le_refl _)) (.inr hl')
theorem rpadP{n:Int}(hv:SlI H v l)(hl:l.length≤100000)(hn:IntKind.i64.min≤n∧n≤IntKind.i64.max)(hlo:lo≤H.length):Ev cp lo 15 [v,.int .i64 n] H (fun r H'=>Ext H H'∧isPad H' r (padT l n)):=by
 obtain⟨ad,c,ev⟩:=hv.len
 have hv0:=hv
 rw[ev]at hv ⊢
 refine st15 ?_;unfold bd15 cf15;simp only[kB,ctlB]
 repeat' ((first|refine xSDg ?_|refine xODg rfl ?_);(try simp only[ctlB]))
 refine xHDg ?_
 refine wpH_call0 (rcwP hv hl) ?_
 rintro r H1 ⟨rfl,rfl⟩
 unfold padT
 cases hcw:cwB l with
 | false=>
  (try simp only[ctlB])
  refine xCDg (fun h=>?_) (fun h=>?_)
  ·(try simp only[ctlB])
   repeat' ((first|refine xSDg ?_|refine xODg rfl ?_);(try simp only[ctlB]))
   refine xRDg ?_
   exact⟨Ext.refl _,rfl⟩
  ·cases h
 | true=>
  simp only[Bool.true_eq_false,if_false]
  clear hcw
  (try simp only[ctlB])
  refine xCDg (fun h=>?_) (fun h=>?_)
  ·cases h
  clear h
  (try simp only[ctlB])
  by_cases h8:n>8192
  ·have hd:decide (n>8192)=true:=decide_eq_true h8
   rw[if_pos h8]
   refine xCDg (fun h=>?_) (fun h=>?_)
   ·(try simp only[ctlB])
    repeat' ((first|refine xSDg ?_|refine xODg rfl ?_);(try simp only[ctlB]))
    refine xRDg ?_
    exact⟨Ext.refl _,rfl⟩
   ·exfalso;simp at h
  have hd:decide (n>8192)=false:=decide_eq_false h8
  rw[if_neg h8]
  refine xCDg (fun h=>?_) (fun h=>?_)
  ·exfalso;simp at h
  clear h hd
  (try simp only[ctlB])
  by_cases hnl:n<l.length
  ·have hd:decide (n<(l.length:Nat))=true:=decide_eq_true hnl
   rw[if_pos hnl]
   refine xCDg (fun h=>?_) (fun h=>?_)
   ·(try simp only[ctlB])
    repeat' ((first|refine xSDg ?_|refine xODg rfl ?_);(try simp only[ctlB]))
    refine xRDg ?_
    exact⟨Ext.refl _,rfl⟩
   ·exfalso;simp at h
  have hd:decide (n<(l.length:Nat))=false:=decide_eq_false hnl
  rw[if_neg hnl]
  refine xCDg (fun h=>?_) (fun h=>?_)
  ·exfalso;simp at h
  clear h hd
  obtain⟨m,rfl⟩:∃m:Nat,n=((l.length+m:Nat):Int):=⟨n.toNat-l.length,by omega⟩
  rw[show(((l.length+m:Nat):Int)).toNat-l.length=m by omega]
  replace hnl:l.length+m≤8192:=by omega
  replace h8:m≤8192:=by omega
  (try simp only[ctlB])
  repeat' ((first|refine xSDg ?_|refine xODg rfl ?_);(try simp only[ctlB]))
  refine xHDg ?_
  refine appNil hv hlo hl ?_
  intro w H1 ho hx1 hl1
  replace hl1:H.length≤H1.length:=hx1.1
  have hp0:padL l 0=l:=by simp[padL]
  rw[←hp0]at ho
  clear hp0
  (try simp only[ctlB])
  repeat' ((first|refine xSDg ?_|refine xODg rfl ?_);(try simp only[ctlB]))
  refine aw_for (fun j S H'=>Ext H H'∧∃w b,(H.length≤b∧Own lo 1 H' w b (intL (padL l j)))∧∃(z:Nat→Value),S=[.slice ad l.length c,.int .i64 ((l.length+m:Nat):Int),z 2,z 3,w,.int .i64 ((l.length+j+1:Nat):Int),z 6,z 7,z 8,z 9,z 10,z 11]) m ⟨hx1,_,_,⟨Nat.le_refl _,ho⟩,exZDe (by first|rfl|(simp only[Int.natCast_add,Int.natCast_one];rfl)|simp only[Int.natCast_add,Int.natCast_one])⟩ ?_ ?_ ?_
  ·rintro j S H' hj ⟨_,w,b,_,z,rfl⟩
   exact⟨decide (((l.length+j+1:Nat):Int)≤((l.length+m:Nat):Int)),by simp(disch:=first|omega|(simp only[lenB];omega))only[evB,xBDc,Nat.reduceAdd,Nat.reduceBEq,Int.reduceToNat, *],by simp;omega⟩
  ·rintro j S H2 hj ⟨hx2,w,b,⟨hb,ho⟩,z,rfl⟩
   have hl2:=hx2.1
   rw[padL_succ]
   have hPl:=padL_len l j
   replace hPl:(padL l j).length≤l.length+j∧l.length+j≤(padL l j).length:=by omega
   generalize padL l j=P at ho hPl
   obtain⟨i,hi⟩:∃i,False∨l.length+j=i:=⟨_,.inr rfl⟩
   have hi2:((i+1+1:Nat):Int)=((l.length+(j+1)+1:Nat):Int):=by have:=hi.resolve_left id;omega
   rw[←hi2]
   rw[hi.resolve_left id]
   have hil:i<l.length+m:=by have:=hi.resolve_left id;omega
   have hil2:l.length≤i:=by have:=hi.resolve_left id;omega
   clear hi2
   have hpv:False∨padN l.length i=if i=l.length then 129 else if 130+149*(i+1)%253>254 then 130+149*(i+1)%253-254 else 130+149*(i+1)%253:=.inr rfl
   have em:(149*((i+1:Nat):Int)).tmod 253=((149*(i+1)%253:Nat):Int):=by rw[Int.tmod_eq_emod_of_nonneg (by omega)];omega
   have hq:149*(i+1)%253≤252:=by omega
   generalize 149*(i+1)%253=q at em hq hpv
   (try simp only[ctlB])
   repeat' ((first|refine xSDg ?_|refine xODg rfl ?_);(try simp only[ctlB]))
   refine aw_midX (fun S' H'=>H2=H'∧∃y:Nat,(y≤400∧(False∨padN l.length i=if y>254 then y-254 else y))∧∃(z:Nat→Value),S'=[.slice ad l.length c,.int .i64 ((l.length+m:Nat):Int),z 2,z 3,w,.int .i64 ((i+1:Nat):Int),.int .i64 (y:Nat),z 7,z 8,z 9,z 10,z 11]) ?_ ?_
   ·by_cases hj0:i=l.length
    ·have hd:decide (((i+1:Nat):Int)>(l.length:Nat)+1)=false:=decide_eq_false (by omega)
     have hd2:decide (((l.length:Nat):Int)+1<((i+1:Nat):Int))=false:=decide_eq_false (by omega)
     have hp:=hpv.resolve_left id
     rw[if_pos hj0]at hp
     replace hp:False∨padN l.length i=if 129>254 then 129-254 else 129:=.inr hp
     replace hj0:i≤l.length:=by omega
     clear hpv
     refine xCDg (fun h=>?_) (fun h=>?_)
     ·exfalso;simp at h
     clear h hd hd2
     (try simp only[ctlB])
     exact⟨by trivial,129,⟨by omega,hp⟩,exZDe (by first|rfl|(simp only[Int.natCast_add,Int.natCast_one];rfl)|simp only[Int.natCast_add,Int.natCast_one])⟩
    ·have hd:decide (((i+1:Nat):Int)>(l.length:Nat)+1)=true:=decide_eq_true (by omega)
     have hd2:decide (((l.length:Nat):Int)+1<((i+1:Nat):Int))=true:=decide_eq_true (by omega)
     have hp:=hpv.resolve_left id
     rw[if_neg hj0]at hp
     replace hp:False∨_:=.inr hp
     have e1:(129:Int)+(q:Nat)+1=((130+q:Nat):Int):=by omega
     clear hpv
     refine xCDg (fun h=>?_) (fun h=>?_)
     ·clear h hd hd2
      (try simp only[ctlB])
      repeat' ((first|refine xSDg ?_|refine xODg rfl ?_);(try simp only[ctlB]))
      exact⟨by trivial,130+q,⟨by omega,hp⟩,exZDe (by first|rfl|(simp only[Int.natCast_add,Int.natCast_one];rfl)|simp only[Int.natCast_add,Int.natCast_one])⟩
     ·exfalso;simp at h
   ·rintro S' H3 ⟨rfl,y,⟨hy,hp⟩,z,rfl⟩
    clear hpv em hq
    (try simp only[ctlB])
    refine aw_midX (fun S' H'=>H2=H'∧∃(z:Nat→Value),S'=[.slice ad l.length c,.int .i64 ((l.length+m:Nat):Int),z 2,z 3,w,.int .i64 ((i+1:Nat):Int),.int .i64 (padN l.length i:Nat),z 7,z 8,z 9,z 10,z 11]) ?_ ?_
    ·generalize padN l.length i=pn at hp ⊢
     by_cases h254:y>254
     ·have hd:decide ((y:Int)>254)=true:=decide_eq_true (by omega)
      have hp2:=hp.resolve_left id
      rw[if_pos h254]at hp2
      subst hp2
      have e1:(y:Int)-254=((y-254:Nat):Int):=by omega
      refine xCDg (fun h=>?_) (fun h=>?_)
      ·clear h hd
       (try simp only[ctlB])
       repeat' ((first|refine xSDg ?_|refine xODg rfl ?_);(try simp only[ctlB]))
       exact⟨by trivial,exZDe (by first|rfl|(simp only[Int.natCast_add,Int.natCast_one];rfl)|simp only[Int.natCast_add,Int.natCast_one])⟩
      ·exfalso;simp at h
     ·have hd:decide ((y:Int)>254)=false:=decide_eq_false (by omega)
      have hp2:=hp.resolve_left id
      rw[if_neg h254]at hp2
      subst hp2
      refine xCDg (fun h=>?_) (fun h=>?_)
      ·exfalso;simp at h
      ·clear h hd
       (try simp only[ctlB])
       exact⟨by trivial,exZDe (by first|rfl|(simp only[Int.natCast_add,Int.natCast_one];rfl)|simp only[Int.natCast_add,Int.natCast_one])⟩
    ·rintro S' H3 ⟨rfl,z,rfl⟩
     clear hp
     unfold padV
     generalize padN l.length i=pn
     (try simp only[ctlB])
     repeat' ((first|refine xSDg ?_|refine xODg rfl ?_);(try simp only[ctlB]))
     have hxd:Ext H2 (H2++[some [encN pn]]):=Ext.app _ _
     refine xHDg ?_
     refine wpH_app (c:=[encN pn]) (ho.mono hxd) (by simp;omega) (by omega) (by omega) (by rw[intL_len];omega) get_app0 (by simp) rfl rfl ?_
     intro w' H4 ho4 hk4 hl4
     have hx4:=hk4.ext (hx2.trans hxd) hb
     have ho5:Own lo 1 H4 w' (H2.length+1) (intL (P++[((pn:Nat):Int)])):=by simpa[intL]using ho4
     clear ho4
     (try simp only[ctlB])
     repeat' ((first|refine xSDg ?_|refine xODg rfl ?_);(try simp only[ctlB]))
     exact⟨hx4,w',H2.length+1,⟨by omega,ho5⟩,exZDe (by first|rfl|(simp only[Int.natCast_add,Int.natCast_one];rfl)|simp only[Int.natCast_add,Int.natCast_one])⟩
  ·rintro S H2 ⟨hx2,w,b,⟨hb,ho⟩,z,rfl⟩
   have hsl:SlI H2 w (padL l m):=Sl.ofOwn ho
   clear ho
   (try simp only[ctlB])
   repeat' ((first|refine xSDg ?_|refine xODg rfl ?_);(try simp only[ctlB]))
   refine xRDg ?_
   exact⟨hx2,_,rfl,hsl⟩
end
end Go.Proofs.Ythnflhimcmdnbaa
