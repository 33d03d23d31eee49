/- Lemmas. -/
import Derived.Test.YtgpolmomghejoaaDoorM11
set_option linter.unusedVariables false
set_option linter.unusedSimpArgs false
set_option linter.unusedSectionVars false
namespace Go.Proofs.YtgpolmomghejoaaDoor
open Go.Abs
def dec(N:Nat):List Nat:=(digs 10 N).reverse
def b900(N:Nat):List Nat:=(digs 900 N).reverse
theorem dec_zero:dec 0=[]:=by simp[dec,digs_zero]
theorem dec_snoc{a b:Nat}(hb:b<10)(h:10*a+b≠0):dec (10*a+b)=dec a++[b]:=by
 unfold dec
 rw[digs_pos (by decide) h,List.reverse_cons]
 rw[show(10*a+b)/10=a by omega,show(10*a+b)%10=b by omega]
theorem dec_nil{N:Nat}:dec N=[]↔N=0:=by
 constructor
 ·intro h
  have h2:digs 10 N=[]:=by simpa[dec]using h
  have:=valB_digs (B:=10) (by decide) N
  rw[h2]at this;exact this.symm
 ·rintro rfl;exact dec_zero
theorem b900_zero:b900 0=[]:=by simp[b900,digs_zero]
theorem numB_rev(B:Nat):∀l:List Nat,numB B l.reverse=valB B l
 | []=>rfl
 | d::l=>by rw[List.reverse_cons,numB_snoc,numB_rev B l,valB,Nat.mul_comm];omega
theorem numB_dec(N:Nat):numB 10 (dec N)=N:=by rw[dec,numB_rev,valB_digs (by decide)]
theorem numB_b900(N:Nat):numB 900 (b900 N)=N:=by rw[b900,numB_rev,valB_digs (by decide)]
theorem trimZ_id:∀{l:List Nat},l.getLast?≠some 0→trimZ l=l
 | [],_=>rfl
 | [d],h=>by
  simp at h
  simp[trimZ,h]
 | d::e::l,h=>by
  have ih:=trimZ_id (l:=e::l) (by simpa using h)
  rw[trimZ,ih]
theorem digs_of{B:Nat}(hB:2≤B){l:List Nat}(h:∀d ∈ l,d<B)(h2:l.head?≠some 0):(digs B (numB B l)).reverse=l:=by
 have e:numB B l=valB B l.reverse:=by rw[←numB_rev,List.reverse_reverse]
 rw[e,digs_val hB (fun d hd=>h d (List.mem_reverse.1 hd)),trimZ_id (by rw[List.getLast?_reverse];exact h2),List.reverse_reverse]
theorem dec_of{l:List Nat}(h:∀d ∈ l,d<10)(h2:l.head?≠some 0):dec (numB 10 l)=l:=digs_of (by decide) h h2
theorem b900_of{l:List Nat}(h:∀d ∈ l,d<900)(h2:l.head?≠some 0):b900 (numB 900 l)=l:=digs_of (by decide) h h2
theorem dec_lt(N:Nat):∀d ∈ dec N,d<10:=fun d hd=>digs_lt (by decide) N d (List.mem_reverse.1 hd)
theorem b900_lt(N:Nat):∀d ∈ b900 N,d<900:=fun d hd=>digs_lt (by decide) N d (List.mem_reverse.1 hd)
theorem b900_head(N:Nat):(b900 N).head?≠some 0:=by
 rw[b900,List.head?_reverse];exact digs_last (by decide) N
theorem numB_cons(B d:Nat)(l:List Nat):numB B (d::l)=d*B^l.length+numB B l:=by
 have key:∀(l:List Nat) (x:Nat),l.foldl (fun n d=>n*B+d) x=x*B^l.length+l.foldl (fun n d=>n*B+d) 0:=by
  intro l
  induction l with
  | nil=>intro x;simp
  | cons e l ih=>
   intro x
   rw[List.foldl_cons,List.foldl_cons,ih (x*B+e),ih (0*B+e),List.length_cons,Nat.pow_succ,Nat.add_mul,Nat.mul_assoc,Nat.mul_comm (B^l.length) B]
   simp only[Nat.zero_mul,Nat.zero_add];omega
 unfold numB
 rw[List.foldl_cons,key]
 simp
def grps{α:Type}(n:Nat)(l:List α):List (List α):=if h:l=[]∨n=0 then[] else l.take n::grps n (l.drop n)
 termination_by l.length
 decreasing_by
  have:0<l.length:=List.length_pos_iff.2 (fun e=>h (.inl e))
  simp;omega
theorem grps_nil{α:Type}(n:Nat):grps n ([]:List α)=[]:=by unfold grps;simp
theorem grps_pos{α:Type}{n:Nat}{l:List α}(hn:0<n)(h:l≠[]):grps n l=l.take n::grps n (l.drop n):=by
 rw[grps]
 have h2:¬ (l=[]∨n=0):=by
  rintro(h1|h1)
  ·exact h h1
  ·omega
 rw[dif_neg h2]
def grpW(l:List UInt8):List Nat:=b900 (numB 10 (1::dgt l))
def numW(l:List UInt8):List Nat:=(grps 44 l).flatMap grpW
theorem numW_nil:numW []=[]:=by simp[numW,grps_nil]
theorem numW_pos{l:List UInt8}(h:l≠[]):numW l=grpW (l.take 44)++numW (l.drop 44):=by
 unfold numW
 rw[grps_pos (n:=44) (by decide) h,List.flatMap_cons]
theorem one_dgt{l:List UInt8}(h:∀b ∈ l,isDg b=true):dec (numB 10 (1::dgt l))=1::dgt l:=by
 refine dec_of (fun d hd=>?_) (by simp)
 rcases List.mem_cons.1 hd with rfl|hd
 ·decide
 ·exact dgt_lt h d hd
theorem grpN_lt{l:List UInt8}(h:∀b ∈ l,isDg b=true):numB 10 (1::dgt l)<2*10^l.length∧10^l.length≤numB 10 (1::dgt l):=by
 rw[numB_cons]
 have:=numB_lt (dgt_lt h) (dgt l).length (Nat.le_refl _)
 rw[List.take_length]at this
 have e:(dgt l).length=l.length:=by simp[dgt]
 rw[e]at this ⊢;omega
theorem grpW_len_le{l:List UInt8}(h:∀b ∈ l,isDg b=true):(grpW l).length≤l.length+1:=by
 unfold grpW b900
 rw[List.length_reverse]
 refine digs_length_le (by decide) _ _ (Nat.lt_of_lt_of_le (grpN_lt h).1 ?_)
 calc 2*10^l.length≤900*900^l.length:=Nat.mul_le_mul (by decide) (Nat.pow_le_pow_left (by decide) _)
  _=900^(l.length+1):=by rw[Nat.pow_succ,Nat.mul_comm]
theorem numW_len_le:∀(n:Nat) {l:List UInt8},l.length≤n→(∀b ∈ l,isDg b=true)→(numW l).length≤2*l.length
 | _,[],_,_=>by simp[numW_nil]
 | 0,a::l,h,_=>by simp at h
 | n+1,a::l,hn,h=>by
  rw[numW_pos (by simp),List.length_append]
  have h1:=grpW_len_le (l:=(a::l).take 44) (fun b hb=>h b (List.mem_of_mem_take hb))
  have h2:=numW_len_le n (l:=(a::l).drop 44) (by simp at hn ⊢;omega) (fun b hb=>h b (List.mem_of_mem_drop hb))
  rw[List.length_take]at h1
  rw[List.length_drop]at h2
  simp at h1 h2 ⊢;omega
def strD(l:List Nat):List UInt8:=l.map fun d=>UInt8.ofNat (48+d)
def okPart(last:Bool)(p:List Nat):Bool:=
 decide (p.getD 0 0≠0)&&(decide ((dec (numB 900 p)).getD 0 0=1)&&(decide (2≤(dec (numB 900 p)).length)&&(decide ((dec (numB 900 p)).length≤45)&&(last || decide ((dec (numB 900 p)).length=45)))))
def partS(p:List Nat):List UInt8:=strD ((dec (numB 900 p)).drop 1)
def fromN(l:List Nat):Option (List UInt8):=if h:l=[] then some [] else
 if okPart (decide (l.length≤15)) (l.take 15) then(fromN (l.drop 15)).map (partS (l.take 15)++·) else none
 termination_by l.length
 decreasing_by
  have:0<l.length:=List.length_pos_iff.2 h
  simp;omega
theorem fromN_nil:fromN []=some []:=by unfold fromN;simp
theorem fromN_pos{l:List Nat}(h:l≠[]):fromN l=if okPart (decide (l.length≤15)) (l.take 15) then(fromN (l.drop 15)).map (partS (l.take 15)++·) else none:=by
 rw[fromN,dif_neg h]
theorem strD_dg(l:List Nat)(h:∀d ∈ l,d<10):∀b ∈ strD l,isDg b=true:=by
 intro b hb
 obtain⟨d,hd,rfl⟩:=List.mem_map.1 hb
 have:=h d hd
 simp only[isDg,UInt8.toNat_ofNat']
 rw[Nat.mod_eq_of_lt (by omega)]
 simp;omega
theorem dgt_strD{l:List Nat}(h:∀d ∈ l,d<10):dgt (strD l)=l:=by
 unfold dgt strD
 rw[List.map_map]
 have:l.map ((fun b:UInt8=>b.toNat-48) ∘ fun d=>UInt8.ofNat (48+d))=l.map id:=List.map_congr_left fun d hd=>by
  have:=h d hd
  simp only[Function.comp,UInt8.toNat_ofNat',id]
  rw[Nat.mod_eq_of_lt (by omega)];omega
 rw[this,List.map_id]
theorem strD_dgt{l:List UInt8}(h:∀b ∈ l,isDg b=true):strD (dgt l)=l:=by
 unfold dgt strD
 rw[List.map_map]
 have:l.map ((fun d=>UInt8.ofNat (48+d)) ∘ fun b:UInt8=>b.toNat-48)=l.map id:=List.map_congr_left fun b hb=>by
  have:=h b hb
  simp[isDg]at this
  simp only[Function.comp,id]
  rw[show 48+(b.toNat-48)=b.toNat by omega];simp
 rw[this,List.map_id]
set_option maxRecDepth 20000
theorem ls_sadd{H:Heap}{a b:List UInt8}(h:a.length+b.length≤9223372036854775807):lsem (.bin .add) [strV a,strV b] H=some (strV (a++b)):=by
 simp only[lsem,binSem,binStr,str_size]
 have e:IntKind.i64.max=9223372036854775807:=rfl
 rw[if_neg (by rw[e];omega)]
 congr 2
theorem wpH_appS{α:Type}{enc:α→Value}(h1:∀a,(enc a).oneCell'=true){A lo:Nat}{H:Heap}{v w:Value}{b:Nat}{l m:List α}{z:List Value}{R:Value→Heap→Prop}(hlo:lo≤H.length)(hA:A≤b)(hAH:A≤H.length)
  (ho:Own lo 1 H v b (l.map enc)) (hs:Sl enc H w m) (hsz:l.length+m.length≤4294967296)
  (k:∀v' H' b',A≤b'→Own lo 1 H' v' b' ((l++m).map enc)→Keep b H H'→R v' H'):wpH cp lo (.app 1 z) [v,w] H R:=by
 have hz:m=[]→R v H→R v H:=fun _ h=>h
 have stay:appendSem lo 1 v [] 0 H=some (v,H):=by
  obtain⟨hb,⟨rfl,_⟩|⟨n,hn,hn2,rfl,hg⟩⟩:=ho
  ·simp[appendSem]
  ·simp only[appendSem,Nat.add_zero,Nat.le_refl,if_true,or_true]
   rw[put_get hg hb (by simp only[Nat.zero_add,List.length_nil,Nat.add_zero];omega)]
   have:putCells (l.map enc) (0+n*1) []=l.map enc:=by simp[putCells]
   rw[this,set_get_self hg];rfl
 cases m with
 | nil=>
  have kk:=k v H b hA (by simpa using ho) ⟨Nat.le_refl _,fun _ _ _=>rfl⟩
  rcases hs with ⟨rfl,_⟩|⟨b2,o2,sp2,cap2,xs,rfl,hg,hx,hxl,_⟩
  ·simp only[wpH,hsem0,hsem,if_true,stay];exact kk
  ·simp only[wpH,hsem0,hsem,List.length_nil,Nat.zero_mul]
   rw[cells_get hg (by simpa using hxl)]
   simp only[Option.bind_some,List.take_zero,oneCells,List.all_nil,if_true,stay];exact kk
 | cons a m=>
  rcases hs with ⟨_,h⟩|⟨b2,o2,sp2,cap2,xs,rfl,hg,hx,hxl,_⟩
  ·cases h
  ·refine wpH_app (c:=(a::m).map enc) ho hlo (by decide) (by simp) (by simpa using hsz) hg (by rw[Nat.mul_one];exact hxl) (by rw[Nat.mul_one];exact hx) ?_ ?_
   ·unfold oneCells
    rw[List.all_eq_true]
    intro x hx
    obtain⟨y,_,rfl⟩:=List.mem_map.1 hx
    exact h1 y
   ·intro v' H' q1 q2 q3
    exact k v' H' H.length hAH (by rw[List.map_append];exact q1) q2
set_option linter.defProp false in
def xBSg:=And.intro @Int.cast_ofNat_Int (And.intro @ite_self.{1} (And.intro @vcells2 (And.intro @ls_lenS' (And.intro @str_size (And.intro @ls_seq (And.intro @ls_sne (And.intro @ls_idxS' (And.intro @ls_idxS0 (And.intro @ls_slSa (And.intro @ls_slSb (And.intro @ls_slSc @ls_sadd)))))))))))
theorem xESg{P:Prop}(h:P:=by simp(disch:=first|omega|(simp only[lenB];omega))only[evB,xBSg,Nat.reduceAdd,Nat.reduceBEq,Int.reduceToNat, *];rfl):P:=h
theorem xSSg{cp:FuncId→Option CF}{lo:Nat}{l:List (Nat×E)}{chk:List E}{Q:Post}{S:List Value}{H:Heap}{vs:List (Nat×Value)}{S':List Value}(k:Q .normal S' H)(h:evSets S H l=some vs:=by exact xESg)(hc:evChk S H chk=true:=by simp(disch:=first|omega|(simp only[lenB];omega))only[evB,xBSg,Nat.reduceAdd,Nat.reduceBEq,Int.reduceToNat, *])(hS:setAll S vs=S':=by exact xESg):wpS cp lo (.sets l chk) Q S H:=aw_sets h hc hS k
theorem xHSg{cp:FuncId→Option CF}{lo:Nat}{l:List (Nat×E)}{chk:List E}{Q:Post}{S:List Value}{H:Heap}{vs:List (Nat×Value)}{dst:Option Nat}{o:HOp}{a:E}{xs:List Value}(k:wpH cp lo o xs H fun v H'=>Q .normal (setD (setAll S vs) dst v) H')(h:evSets S H l=some vs:=by exact xESg)(hc:evChk S H chk=true:=by simp(disch:=first|omega|(simp only[lenB];omega))only[evB,xBSg,Nat.reduceAdd,Nat.reduceBEq,Int.reduceToNat, *])(ha:ev S H a=some xs:=by exact xESg):wpS cp lo (.hv l chk [] dst o a) Q S H:=aw_hv h hc ha k
theorem xOSg{cp:FuncId→Option CF}{lo:Nat}{l:List (Nat×E)}{chk:List E}{Q:Post}{S:List Value}{H:Heap}{vs:List (Nat×Value)}{dst:Option Nat}{o:HOp}{a:E}{xs:List Value}{S':List Value}{H':Heap}{v:Value}(hcall:o.isCall=false)(k:Q .normal S' H')(h:evSets S H l=some vs:=by exact xESg)(hc:evChk S H chk=true:=by simp(disch:=first|omega|(simp only[lenB];omega))only[evB,xBSg,Nat.reduceAdd,Nat.reduceBEq,Int.reduceToNat, *])(ha:ev S H a=some xs:=by exact xESg)(ho:hsem0 lo o xs H=some (v,H'):=by exact xESg)(hS:setD (setAll S vs) dst v=S':=by exact xESg):wpS cp lo (.hv l chk [] dst o a) Q S H:=aw_op hcall h hc ha ho hS k
theorem xCSg{cp:FuncId→Option CF}{lo:Nat}{c:E}{a b:Stm}{Q:Post}{S:List Value}{H:Heap}{t:Bool}(k1:t=true→wpS cp lo a Q S H)(k2:t=false→wpS cp lo b Q S H)(h:ev1 S H c=some (.bool t):=by exact xESg):wpS cp lo (.cond c a b) Q S H:=aw_cond h k1 k2
theorem xRSg{cf:CF}{R:Value→Heap→Prop}{S:List Value}{H:Heap}{vs:List Value}(k:R (resultOf vs) H)(h:evList S H cf.res=some vs:=by exact xESg):bodyQ cf R .ret S H:=body_ret h k
theorem dwordsQ{lo:Nat}{H:Heap}{l:List UInt8}(hlo:lo≤H.length)(hl:l.length≤44)(hd:∀b ∈ l,isDg b=true) :
  Ev cp lo 24 [strV l] H (fun r H'=>Ext H H'∧SlN H' r (grpW l)∧∃b sp,H.length≤b∧r=.slice (some ⟨b,0,sp⟩) (grpW l).length (grpW l).length∧H'.get b=some ((grpW l).map encN)):=by
 have hd1:∀b ∈ (49::l:List UInt8),isDg b=true:=by
  intro b hb
  rcases List.mem_cons.1 hb with rfl|hb
  ·decide
  ·exact hd b hb
 have hdg:dgt (49::l)=1::dgt l:=rfl
 have hN:=grpN_lt hd
 have hNp:numB 10 (1::dgt l)≠0:=by
  have:=Nat.pow_pos (n:=l.length) (show 0<10 by decide);omega
 have hw:=grpW_len_le hd
 have hlm:(limbs (numB 10 (1::dgt l))).length≤45:=limbs_len (Nat.lt_of_lt_of_le hN.1 (by
  calc 2*10^l.length≤2*10^44:=Nat.mul_le_mul_left _ (Nat.pow_le_pow_right (by decide) hl)
   _≤W32^45:=by decide))
 unfold grpW b900 at hw ⊢
 rw[List.length_reverse]at hw
 refine st24 ?_;unfold bd24 cf24;simp only[kB,ctlB]
 repeat' ((first|refine xSSg ?_|refine xOSg rfl ?_);(try simp only[ctlB]))
 refine xHSg ?_
 refine wpH_call0 (parseP (l:=49::l) hlo (by simp;omega) (by simp) (show(49:UInt8).toNat≠48 by decide) hd1) ?_
 rw[hdg]
 rintro r H1 ⟨hx1,w,rfl,hv⟩
 generalize numB 10 (1::dgt l)=N at *
 clear hN
 have hv0:=hv
 obtain⟨m,rfl,hm⟩:=hv
 have hlen:=hx1.1
 have hx2:=Ext.push H1 (some [.bool false,m])
 obtain⟨am,cm,rfl⟩:=hm.len
 (try simp only[ctlB])
 repeat' ((first|refine xSSg ?_|refine xOSg rfl ?_);(try simp only[ctlB]))
 refine xHSg ?_
 refine wpH_call0 (digitsP (B:=900) (by simp;omega) (hv0.mono hx2) (by omega) (by omega) hNp (by omega)) ?_
 rintro r H3 ⟨hx3,w,rfl,hw3,b,sp,hb1,hb2,hb3⟩
 have hx21:=hx2.1
 replace hb2:=Or.inr (a:=False) hb2
 (try simp only[ctlB])
 repeat' ((first|refine xSSg ?_|refine xOSg rfl ?_);(try simp only[ctlB]))
 refine xRSg ?_
 exact⟨(hx1.trans hx2).trans hx3,hw3,b,sp,by omega,by rw[List.length_reverse];exact hb2.resolve_left id,hb3⟩
theorem dwordsP{lo:Nat}{H:Heap}{l:List UInt8}(hlo:lo≤H.length)(hl:l.length≤44)(hd:∀b ∈ l,isDg b=true) :
  Ev cp lo 24 [strV l] H (fun r H'=>Ext H H'∧SlN H' r (grpW l)):=(dwordsQ hlo hl hd).mono fun _ _ h=>⟨h.1,h.2.1⟩
def IsR(H:Heap)(r:Value)(p:List Nat×Nat):Prop:=∃v,r=.tuple #[v,.int .i64 (p.2:Nat)]∧SlN H v p.1
def numericT(l:List UInt8):List Nat×Nat:=if 4096<l.length then([],4) else if l.all isDg then(numW l,0) else([],6)
theorem isDg_at{l:List UInt8}{i:Nat}(h:l.all isDg=true)(hi:i<l.length):isDg (l.getD i 0)=true:=by
 rw[List.getD_eq_getElem?_getD,List.getElem?_eq_getElem hi]
 exact List.all_eq_true.1 h _ (List.getElem_mem hi)
theorem not_dg{l:List UInt8}{i:Nat}(hi:i<l.length)(h:isDg (l.getD i 0)=false):l.all isDg=false:=by
 cases e:l.all isDg with
 | false=>rfl
 | true=>rw[isDg_at e hi]at h;cases h
theorem all_dg_of{l:List UInt8}(h:∀j,j<l.length→isDg (l.getD j 0)=true):l.all isDg=true:=by
 rw[List.all_eq_true]
 intro b hb
 obtain⟨j,hj,rfl⟩:=List.mem_iff_getElem.1 hb
 have:=h j hj
 rwa [List.getD_eq_getElem?_getD,List.getElem?_eq_getElem hj]at this
theorem numericP{lo:Nat}{H:Heap}{l:List UInt8}(hlo:lo≤H.length)(hl:l.length≤9223372036854775807) :
  Ev cp lo 13 [strV l] H (fun r H'=>Ext H H'∧IsR H' r (numericT l)):=by
 unfold numericT
 refine st13 ?_;unfold bd13 cf13;simp only[kB,ctlB]
 repeat' ((first|refine xSSg ?_|refine xOSg rfl ?_);(try simp only[ctlB]))
 refine xCSg (fun h=>?_) (fun h=>?_)
 ·have hc:4096<l.length:=by simp only[decide_eq_true_eq]at h;omega
  clear h
  (try simp only[ctlB])
  repeat' ((first|refine xSSg ?_|refine xOSg rfl ?_);(try simp only[ctlB]))
  refine xRSg ?_
  rw[if_pos hc]
  exact⟨Ext.refl _,_,rfl,.inl ⟨rfl,rfl⟩⟩
 have hc:l.length≤4096:=by simp only[decide_eq_false_iff_not]at h;omega
 clear h
 rw[if_neg (by omega)]
 (try simp only[ctlB])
 repeat' ((first|refine xSSg ?_|refine xOSg rfl ?_);(try simp only[ctlB]))
 refine aw_for (fun i S H'=>H=H'∧(∀j,j<i→isDg (l.getD j 0)=true)∧∃(z:Nat→Value),S=[strV l,z 1,z 2,z 3,z 4,z 5,.int .i64 (l.length:Nat),.int .i64 (i:Nat),z 8,z 9,z 10]) l.length ?_ ?_ ?_ ?_
 ·exact⟨rfl,fun j hj=>by omega,exZSb rfl⟩
 ·rintro i S H' hi ⟨rfl,-,z,rfl⟩
  exact⟨_,xESg,by simp⟩
 ·rintro i S H' hi ⟨rfl,hall,z,rfl⟩
  (try simp only[ctlB])
  repeat' ((first|refine xSSg ?_|refine xOSg rfl ?_);(try simp only[ctlB]))
  refine xCSg (fun h=>?_) (fun h=>?_)
  ·have hno:isDg (l.getD i 0)=false:=by
    simp only[Bool.or_eq_true,decide_eq_true_eq]at h
    simp only[isDg,Bool.and_eq_false_iff,decide_eq_false_iff_not];omega
   clear h
   (try simp only[ctlB])
   repeat' ((first|refine xSSg ?_|refine xOSg rfl ?_);(try simp only[ctlB]))
   refine xRSg ?_
   rw[not_dg hi hno]
   exact⟨Ext.refl _,_,rfl,.inl ⟨rfl,rfl⟩⟩
  ·have hyes:isDg (l.getD i 0)=true:=by
    simp only[Bool.or_eq_false_iff,decide_eq_false_iff_not]at h
    simp only[isDg,Bool.and_eq_true,decide_eq_true_eq];omega
   clear h
   (try simp only[ctlB])
   repeat' ((first|refine xSSg ?_|refine xOSg rfl ?_);(try simp only[ctlB]))
   refine⟨by trivial,fun j hj=>?_,exZSb (by first|rfl|(simp only[Int.natCast_add,Int.natCast_one];rfl)|simp only[Int.natCast_add,Int.natCast_one])⟩
   by_cases e:j=i
   ·subst e;exact hyes
   ·exact hall j (by omega)
 ·rintro S H' ⟨rfl,hall,z,rfl⟩
  have hall:=all_dg_of hall
  rw[hall]
  have hmem:=List.all_eq_true.1 hall
  have hwl:=numW_len_le _ (Nat.le_refl _) hmem
  clear hall
  (try simp only[ctlB])
  repeat' ((first|refine xSSg ?_|refine xOSg rfl ?_);(try simp only[ctlB]))
  refine aw_loop' (fun m S H'=>Ext H H'∧∃(a:Nat) (D:List Nat) (w:Value) (b:Nat),(l.length≤m+a∧(a≤l.length→m+a≤l.length))∧(D++numW (l.drop a)=numW l∨False)∧H.length≤b∧Own lo 1 H' w b (D.map encN)∧a≤5000∧(∃(z:Nat→Value),S=[strV l,z 1,z 2,z 3,w,.int .i64 (a:Nat),z 6,z 7,z 8,z 9,z 10])) l.length ?_ ?_
  ·exact⟨Ext.refl _,0,[],_,H.length,by omega,.inl rfl,Nat.le_refl _,Own.nil hlo,by omega,exZSb rfl⟩
  rintro m S H' ⟨hx,a,D,w,b,hm,hs,hb,ho,ha,z,rfl⟩
  obtain⟨aw,rfl⟩:=own_len ho
  have hlen:=hx.1
  by_cases hi:a<l.length
  ·have hDl:D.length≤20000:=by
    have:=congrArg List.length (hs.resolve_right id)
    rw[List.length_append]at this;omega
   have hp:=numW_pos (l:=l.drop a) (by simp;omega)
   rw[List.drop_drop]at hp
   have ht:(l.drop a).take 44=(l.take (min (a+44) l.length)).drop a:=by
    rw[List.drop_take]
    rcases Nat.le_total (a+44) l.length with h|h
    ·rw[Nat.min_eq_left h];congr 1;omega
    ·rw[Nat.min_eq_right h,List.take_of_length_le (by simp;omega),List.take_of_length_le (by simp)]
   obtain⟨e,he⟩:∃e,min (a+44) l.length=e:=⟨_,rfl⟩
   have he2:a≤e∧e≤l.length∧e≤a+44:=by omega
   rw[he]at ht
   have emin:lsem (.minmax false) [.int .i64 ((a:Int)+44),.int .i64 (l.length:Nat)] H'=some (.int .i64 (e:Nat)):=by
    simp only[lsem,List.foldlM_cons,List.foldlM_nil,minInt,Bool.false_eq_true,if_false]
    by_cases h:(l.length:Int)<(a:Int)+44
    ·rw[if_pos h];simp;omega
    ·rw[if_neg h];simp;omega
   (try simp only[ctlB])
   refine xCSg (fun h=>?_) (fun h=>?_)
   ·clear h
    (try simp only[ctlB])
    repeat' ((first|refine xSSg ?_|refine xOSg rfl ?_);(try simp only[ctlB]))
    refine xHSg ?_
    refine wpH_call0 (dwordsP (l:=(l.take e).drop a) (by omega) (by simp;omega) (fun b hb=>hmem b (List.mem_of_mem_take (List.mem_of_mem_drop hb)))) ?_
    rintro r H2 ⟨hx2,hr⟩
    have hlen2:=hx2.1
    have hgl:=grpW_len_le (l:=(l.take e).drop a) (fun b hb=>hmem b (List.mem_of_mem_take (List.mem_of_mem_drop hb)))
    simp at hgl
    (try simp only[ctlB])
    refine xHSg ?_
    refine wpH_appS (enc:=encN) (fun _=>rfl) (A:=H.length) (by omega) hb (by omega) (ho.mono hx2) hr (by omega) ?_
    intro v' H4 b' hb4 ho4 hk4
    have hx4:=hk4.ext (hx.trans hx2) hb
    clear ho emin
    (try simp only[ctlB])
    repeat' ((first|refine xSSg ?_|refine xOSg rfl ?_);(try simp only[ctlB]))
    simp only[loopQ_n]
    refine⟨l.length-(a+44),by omega,hx4,a+44,D++grpW ((l.take e).drop a),v',b',by omega,.inl ?_,hb4,ho4,by omega,exZSb (by first|rfl|(simp only[Int.natCast_add,Int.natCast_one];rfl)|simp only[Int.natCast_add,Int.natCast_one])⟩
    rw[←hs.resolve_right id,hp,ht,List.append_assoc]
   ·simp only[decide_eq_false_iff_not]at h;omega
  ·have hfin:=hs.resolve_right id
   rw[List.drop_eq_nil_of_le (by omega),numW_nil,List.append_nil]at hfin
   (try simp only[ctlB])
   refine xCSg (fun h=>?_) (fun h=>?_)
   ·simp only[decide_eq_true_eq]at h;omega
   clear h
   have hsl:SlN H' (.slice aw D.length D.length) (numW l):=by rw[←hfin];exact Sl.ofOwn ho
   clear hfin hs ho
   (try simp only[ctlB])
   repeat' ((first|refine xSSg ?_|refine xOSg rfl ?_);(try simp only[ctlB]))
   refine xRSg ?_
   exact⟨hx,_,rfl,hsl⟩
def Grow(lo:Nat)(H:Heap)(v:Value)(b:Nat)(c:List Value):Prop:=
 lo≤b∧((v=.slice none 0 0∧c=[])∨(0<c.length∧(∃sp,v=.slice (some ⟨b,0,sp⟩) c.length c.length∧(sp=none∨sp=some 1))∧H.get b=some c))
theorem Grow.nil{lo:Nat}{H:Heap}{b:Nat}(h:lo≤b):Grow lo H (.slice none 0 0) b []:=⟨h,.inl ⟨rfl,rfl⟩⟩
theorem Grow.lit{lo:Nat}{H:Heap}{b n:Nat}{c:List Value}(h:lo≤b)(hg:H.get b=some c)(hn:c.length=n)(h0:0<n):Grow lo H (.slice (some ⟨b,0,none⟩) n n) b c:=
 ⟨h,.inr ⟨by omega,⟨none,by rw[hn],.inl rfl⟩,hg⟩⟩
theorem Grow.mono{lo b:Nat}{H H':Heap}{v:Value}{c:List Value}(h:Grow lo H v b c)(e:Ext H H'):Grow lo H' v b c:=by
 obtain⟨h1,h|⟨a,b,d⟩⟩:=h
 ·exact⟨h1,.inl h⟩
 ·exact⟨h1,.inr ⟨a,b,e.get d⟩⟩
theorem Grow.keep{lo b b2:Nat}{H H':Heap}{v:Value}{c:List Value}(h:Grow lo H v b c)(e:Keep b2 H H')(hne:b≠b2):Grow lo H' v b c:=by
 obtain⟨h1,h|⟨a,b,d⟩⟩:=h
 ·exact⟨h1,.inl h⟩
 ·exact⟨h1,.inr ⟨a,b,e.get d hne⟩⟩
theorem Grow.sl{α:Type}{enc:α→Value}{lo b:Nat}{H:Heap}{v:Value}{l:List α}(h:Grow lo H v b (l.map enc)):Sl enc H v l:=by
 obtain⟨_,⟨rfl,h⟩|⟨_,⟨sp,rfl,hs⟩,hg⟩⟩:=h
 ·exact .inl ⟨rfl,by simpa using h⟩
 ·rw[List.length_map];exact Sl.whole hg rfl hs
theorem Grow.len{α:Type}{enc:α→Value}{lo b:Nat}{H:Heap}{v:Value}{l:List α}(h:Grow lo H v b (l.map enc)):∃a,v=.slice a l.length l.length:=by
 obtain⟨_,⟨rfl,h⟩|⟨_,⟨sp,rfl,hs⟩,hg⟩⟩:=h
 ·have:l=[]:=by simpa using h
  subst this;exact⟨none,rfl⟩
 ·exact⟨_,by rw[List.length_map]⟩
theorem Grow.off{A lo:Nat}{H:Heap}{v:Value}{b:Nat}{c:List Value}(h:Grow lo H v b c)(hA:A≤b){n:Nat}(hn:A≤n)(hlo:lo≤n):∃b',Grow lo H v b' c∧A≤b'∧(b'<H.length∨n≤b'):=by
 obtain⟨h1,⟨h2,h3⟩|⟨h2,h3,h5⟩⟩:=h
 ·exact⟨n,⟨hlo,.inl ⟨h2,h3⟩⟩,hn,.inr (Nat.le_refl _)⟩
 ·exact⟨b,⟨h1,.inr ⟨h2,h3,h5⟩⟩,hA,.inl (Heap.get_lt h5)⟩
end Go.Proofs.YtgpolmomghejoaaDoor
