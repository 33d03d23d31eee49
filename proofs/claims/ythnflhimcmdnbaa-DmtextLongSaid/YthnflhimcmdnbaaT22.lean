/- Dmtext: the laws Pads and Long. -/
import Derived.Test.YthnflhimcmdnbaaT21
set_option linter.unusedVariables false
set_option linter.unusedSimpArgs false
set_option linter.unusedSectionVars false
namespace Go.Proofs.Ythnflhimcmdnbaa
open Go.Abs
set_option linter.unusedSimpArgs false
set_option linter.unusedVariables false
set_option maxRecDepth 20000
section
variable {lo:Nat}{H:Heap}{v:Value}
theorem pad_ints{H':Heap}{l:List Int}{n:Int}{r:Value}(hl:l.length≤300)(hn:n≤600∨8192<n)(h:isPad H' r (padT l n)):∃u w e,r=.tuple #[u,.int .i64 e]∧SlI H' u w∧w.length≤1000000000∧padT l n=padT l n∧(match padT l n with | .inl e'=>e=e'∧w=[] | .inr w'=>e=0∧w=w'):=by
 cases hp:padT l n with
 | inl e=>
  rw[hp]at h
  exact⟨.slice none 0 0,[],e,h,.inl ⟨rfl,rfl⟩,by simp,rfl,rfl,rfl⟩
 | inr w=>
  rw[hp]at h
  obtain⟨u,rfl,hu⟩:=h
  refine⟨u,w,0,rfl,hu,?_,rfl,rfl,rfl⟩
  unfold padT at hp
  split at hp
  ·cases hp
  ·split at hp
   ·cases hp
   ·split at hp
    ·cases hp
    ·cases hp
     rw[padL_len];omega
theorem lawPads{l:List Int}{n:Int}(hv:SlI H v l)(hn:IntKind.i64.min≤n∧n≤IntKind.i64.max)(hlo:lo≤H.length):Ev cp lo 4 [v,.int .i64 n] H (fun r _=>r=.bool true):=by
 obtain⟨ad,c,ev⟩:=hv.len
 have hv0:=hv
 rw[ev]at hv ⊢
 refine st4 ?_;unfold bd4 cf4;simp only[kB,ctlB]
 repeat' ((first|refine xSDg ?_|refine xODg rfl ?_);(try simp only[ctlB]))
 by_cases hb:300<l.length∨(600<n∧n≤8192)
 ·have hd:(decide ((l.length:Int)>300) || (decide (n>600)&&decide (n≤8192)))=true:=by
   simp only[Bool.or_eq_true,Bool.and_eq_true,decide_eq_true_eq];omega
  refine xCDg (fun h=>?_) (fun h=>?_)
  ·clear h
   (try simp only[ctlB])
   refine xHDg ?_
   refine wpH_call0 (alive hlo) ?_
   rintro r H1 ⟨hx,rfl⟩
   (try simp only[ctlB])
   repeat' ((first|refine xSDg ?_|refine xODg rfl ?_);(try simp only[ctlB]))
   refine xRDg ?_
   rfl
  ·exfalso;first|(rw[hd]at h;cases h)|cases h
 have hd:(decide ((l.length:Int)>300) || (decide (n>600)&&decide (n≤8192)))=false:=by
  simp only[Bool.or_eq_false_iff,Bool.and_eq_false_iff,decide_eq_false_iff_not];omega
 refine xCDg (fun h=>?_) (fun h=>?_)
 ·exfalso;first|(rw[hd]at h;cases h)|cases h
 clear h hd
 have hl3:l.length≤300:=by omega
 have hn3:n≤600∨8192<n:=by omega
 (try simp only[ctlB])
 refine xHDg ?_
 refine wpH_call0 (padP hv (by omega) hn hlo) ?_
 rintro r H1 ⟨hx1,hr⟩
 obtain⟨u1,w1,e1,rfl,hu1,hw1,-,hm1⟩:=pad_ints hl3 hn3 hr
 clear hr
 have hl1:=hx1.1
 (try simp only[ctlB])
 repeat' ((first|refine xSDg ?_|refine xODg rfl ?_);(try simp only[ctlB]))
 refine xHDg ?_
 refine wpH_call0 (rpadP (hv.mono hx1) (by omega) hn (by omega)) ?_
 rintro r H2 ⟨hx2,hr⟩
 obtain⟨u2,w2,e2,rfl,hu2,hw2,-,hm2⟩:=pad_ints hl3 hn3 hr
 clear hr
 have hl2:=hx2.1
 have he:e1=e2∧w1=w2:=by
  cases hp:padT l n with
  | inl e=>rw[hp]at hm1 hm2;exact⟨hm1.1.trans hm2.1.symm,hm1.2.trans hm2.2.symm⟩
  | inr w=>rw[hp]at hm1 hm2;exact⟨hm1.1.trans hm2.1.symm,hm1.2.trans hm2.2.symm⟩
 obtain⟨rfl,rfl⟩:=he
 clear hm1 hm2
 replace hu1:=hu1.mono hx2
 (try simp only[ctlB])
 repeat' ((first|refine xSDg ?_|refine xODg rfl ?_);(try simp only[ctlB]))
 refine xHDg ?_
 refine wpH_call0 (ints_eq hu1 hu2 hw1 hw1 rfl) ?_
 rintro r H3 ⟨rfl,rfl⟩
 (try simp only[ctlB])
 refine aw_hv_if (t:=true) (xEDg) (by simp(disch:=first|omega|(simp only[lenB];omega))only[evB,xBDc,Nat.reduceAdd,Nat.reduceBEq,Int.reduceToNat, *]) (by simp(disch:=first|omega|(simp only[lenB];omega))only[evB,xBDc,Nat.reduceAdd,Nat.reduceBEq,Int.reduceToNat, *];try rfl) (fun _=>⟨_,xEDg,?_⟩) (fun h=>by cases h)
 refine wpH_call0 (alive (by omega)) ?_
 rintro r H4 ⟨hx,rfl⟩
 (try simp only[ctlB])
 repeat' ((first|refine xSDg ?_|refine xODg rfl ?_);(try simp only[ctlB]))
 refine xRDg ?_
 rfl
theorem lawLong{n:Int}(hn:IntKind.i64.min≤n∧n≤IntKind.i64.max)(hlo:lo≤H.length):Ev cp lo 8 [.int .i64 n] H (fun r _=>r=.bool true):=by
 have hk:(BitVec.ofInt IntKind.i64.bits n &&& BitVec.ofInt IntKind.i64.bits 15).toNat≤15:=by
  show(BitVec.ofInt 64 n &&& BitVec.ofInt 64 15).toNat≤15
  rw[BitVec.toNat_and]
  exact Nat.le_trans Nat.and_le_right (by decide)
 obtain⟨k,hk0⟩:∃k,(BitVec.ofInt IntKind.i64.bits n &&& BitVec.ofInt IntKind.i64.bits 15).toNat=k:=⟨_,rfl⟩
 rw[hk0]at hk
 have hz8:∀m,zeros [Value.int .u8 0] m=uU (List.replicate m 0):=by
  intro m
  unfold zeros uU
  rw[List.map_replicate]
  induction m with
  | zero=>rfl
  | succ m ih=>rw[List.replicate_succ,List.flatten_cons,ih,List.replicate_succ];rfl
 refine st8 ?_;unfold bd8 cf8;simp only[kB,ctlB]
 repeat' ((first|refine xSDg ?_|refine xODg rfl ?_);(try simp only[ctlB]))
 have e1:(4096+(1+(k:Int))).toNat=4096+(1+k):=by omega
 have e2:(8192+(1+(k:Int))).toNat=8192+(1+k):=by omega
 rw[e1]
 clear hk0 hz8
 generalize hG:H++_=G1
 obtain⟨hx1,hg1⟩:=lit hG
 clear hG
 have hl1:=hx1.1
 have hs1:SlU G1 (.slice (some ⟨H.length,0,none⟩) (4096+(1+k)) (4096+(1+k))) (List.replicate (4096+(1+k)) 0):=Sl.whole hg1 (by simp)
 have hrl:4096<(List.replicate (4096+(1+k)) (0:UInt8)).length:=by simp;omega
 generalize List.replicate (4096+(1+k)) (0:UInt8)=p at hs1 hrl
 clear hg1 e1
 refine xHDg ?_
 refine wpH_call0 (encL hs1 hrl) ?_
 rintro r H1 ⟨rfl,rfl⟩
 (try simp only[ctlB])
 repeat' ((first|refine xSDg ?_|refine xODg rfl ?_);(try simp only[ctlB]))
 refine xHDg ?_
 refine wpH_call0 (lngL hs1 hrl) ?_
 rintro r H1 ⟨rfl,rfl⟩
 clear hs1 hrl
 (try simp only[ctlB])
 repeat' ((first|refine xSDg ?_|refine xODg rfl ?_);(try simp only[ctlB]))
 generalize hG:G1++_=G2
 obtain⟨hx2,hg2⟩:=lit hG
 clear hG
 have hl2:=hx2.1
 have hs2:SlI G2 (.slice (some ⟨G1.length,0,none⟩) (8192+(1+k)) (8192+(1+k))) (List.replicate (8192+(1+k)) 0):=Sl.whole hg2 (by simp)
 have hdt:decT (List.replicate (8192+(1+k)) 0)=.inl 4:=by
  unfold decT
  have:cwB (List.replicate (8192+(1+k)) 0)=true:=by
   unfold cwB
   rw[List.all_eq_true]
   intro x hx
   rw[(List.mem_replicate.1 hx).2]
   rfl
  rw[this,if_neg (by decide),if_pos (by simp;omega)]
 have hrl2:(List.replicate (8192+(1+k)) (0:Int)).length≤100000:=by simp;omega
 generalize List.replicate (8192+(1+k)) (0:Int)=q at hs2 hdt hrl2
 clear hg2
 clear e2
 refine xHDg ?_
 refine wpH_call0 (decP hs2 hrl2 (by omega)) ?_
 intro r H3 hr
 rw[hdt]at hr
 obtain⟨hx3,rfl,-⟩:=hr
 clear hs2 hdt hrl2
 have hl3:=hx3.1
 (try simp only[ctlB])
 repeat' ((first|refine xSDg ?_|refine xODg rfl ?_);(try simp only[ctlB]))
 have hpt:padT [] (8192+(1+(k:Int)))=.inl 4:=by
  unfold padT
  rw[if_neg (by decide),if_pos (by omega)]
 have hnr:IntKind.i64.min≤8192+(1+(k:Int))∧8192+(1+(k:Int))≤IntKind.i64.max:=by
  have h1:IntKind.i64.min=-9223372036854775808:=by decide
  have h2:IntKind.i64.max=9223372036854775807:=by decide
  omega
 refine xHDg ?_
 refine wpH_call0 (padP (l:=[]) (n:=8192+(1+(k:Int))) (.inl ⟨rfl,rfl⟩) (by decide) hnr (by omega)) ?_
 intro r H4 hr
 rw[hpt]at hr
 obtain⟨hx4,rfl⟩:=hr
 have hl4:=hx4.1
 clear hpt hnr
 (try simp only[ctlB])
 repeat' ((first|refine xSDg ?_|refine xODg rfl ?_);(try simp only[ctlB]))
 refine aw_hv_if (t:=true) (xEDg) (by simp(disch:=first|omega|(simp only[lenB];omega))only[evB,xBDc,Nat.reduceAdd,Nat.reduceBEq,Int.reduceToNat, *]) (by simp(disch:=first|omega|(simp only[lenB];omega))only[evB,xBDc,Nat.reduceAdd,Nat.reduceBEq,Int.reduceToNat, *];try rfl) (fun _=>⟨_,xEDg,?_⟩) (fun h=>by cases h)
 refine wpH_call0 (alive (by omega)) ?_
 rintro r H5 ⟨hx,rfl⟩
 (try simp only[ctlB])
 repeat' ((first|refine xSDg ?_|refine xODg rfl ?_);(try simp only[ctlB]))
 refine xRDg ?_
 rfl
end
end Go.Proofs.Ythnflhimcmdnbaa
