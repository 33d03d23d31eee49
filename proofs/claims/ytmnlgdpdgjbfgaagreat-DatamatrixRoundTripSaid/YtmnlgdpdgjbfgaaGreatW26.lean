/- Lemmas. -/
import Derived.Test.YtmnlgdpdgjbfgaaGreatW25
set_option linter.all false
namespace Go.Proofs.YtmnlgdpdgjbfgaaGreat
open Go.Abs
variable{H:Heap}{v:Value}
set_option maxRecDepth 20000
theorem CI{l:List Nat}(h:Sl aB H v l):SlI H v (l.map (fun i:Nat=>(i:Int))):=by
 rcases h with ⟨rfl,rfl⟩|⟨b,o,sp,cap,xs,h1,h2,h3,h4,h5⟩
 ·exact .inl ⟨rfl,rfl⟩
 ·refine .inr ⟨b,o,sp,cap,xs,by rw[h1];simp,h2,?_,by simpa using h4,by simpa using h5⟩
  rw[ay₀,h3,List.map_map];rfl
theorem tQ{d:Nat}{c:List Value}(h:H.get d=some c):H.set d (some c)=H:=by
 have hl:=Heap.get_lt h;apply List.ext_getElem (by simp);intro i h1 h2;rw[List.getElem_set];split
 ·rename_i e
  subst e;rw[eM,bc₀ hl]at h;revert h;cases H[d]with
  | none=>intro h;simp at h
  | some x=>intro h;simp at h;rw[h]
 ·rfl
theorem HP{cp:FuncId->Option CF}{lo:Nat}{p D:List Int}{d n c:Nat}{R:Value->Heap->Prop}(hlo:lo<=d)(hd:H.get d=some (ak D))(hn:D.length=n)(hp:SlI H v p)(k:∀w,R w (H.set d (some (ak (p.take n++D.drop (min p.length n)))))):wpH cp lo (.cpy 1) [.slice (some ⟨d,0,none⟩) n c,v] H R:=by
 simp only[wpH];rcases hp with ⟨rfl,rfl⟩|⟨b,o,sp,cap,xs,rfl,hb,hx,hlen,-⟩
 ·simp only[c9,hsem,if_true]
  have:=k (.int .i64 0);simp only[an₀,Nat.zero_min,List.take_nil,List.drop_zero,List.nil_append]at this;rwa [tQ hd]at this
 ·rw[zY hlo,hb,hd]
  have hx2:(xs.drop o).take (min p.length n*1)=ak (p.take n):=by
   have:((xs.drop o).take p.length).take n=(p.map (Value.int .i64)).take n:=by rw[hx]
   rw[List.take_take,<-List.map_take]at this;rw[Nat.mul_one,Nat.min_comm];exact this
  have h1:o+min p.length n*1<=xs.length:=byO;have h2:0+min p.length n*1<=(ak D).length:=by rw[jh];omega
  simp only[h1,h2,hx2,uE,and_self,if_true];have hpc:putCells (ak D) 0 (ak (p.take n))=ak (p.take n++D.drop (min p.length n)):=by
   rw[sR,rk,uD,jh,List.length_take,Nat.min_comm]
  rw[hpc];exact k _
theorem Gr{l:List Int}{k:Nat}(h:SlI H v l)(hk:k<l.length):∃b o xs,aI (.iAddr 1) [v,.int .i64 (k:Nat)] H=some (.pointer (some ⟨b,o,none⟩))/\H.get b=some xs/\xs[o]?=some (.int .i64 (l.getD k 0)):=by
 obtain⟨b,o,sp,cap,xs,rfl,h2,h3,h4⟩:=h.els 0 byO;refine⟨b,o+k,xs,?_,h2,h3 k hk⟩;rw[lU byO byO];simp
def oz(l:List Int):Bool:=l.all fun x=>decide (0<=x)&&decide (x<=255)
def yF(k i:Nat):Nat:=if i=k then 129 else if 130+149*(i+1)%253>254 then 130+149*(i+1)%253-254 else 130+149*(i+1)%253
abbrev zq(k i:Nat):Int:=(yF k i:Nat)
def gu(l:List Int)(m:Nat):List Int:=l++(List.range m).map fun j=>zq l.length (l.length+j)
theorem lW(l:List Int)(m:Nat):(gu l m).length=l.length+m:=by simp[gu]
theorem Ci(l:List Int)(m:Nat):gu l (m+1)=gu l m++[zq l.length (l.length+m)]:=by
 unfold gu;rw[List.range_succ,List.map_append,ba₀];rfl
def Cj(l:List Int)(n:Int):Int ⊕ List Int:=if oz l=false then .inl 3 else if n>8192 then .inl 4 else if n<l.length then .inl 16 else .inr (gu l (n.toNat-l.length))
def QN(H':Heap)(r:Value):Int ⊕ List Int->Prop
 | .inl e=>r=.tuple #[.slice none 0 0,.int .i64 e]
 | .inr w=>∃u,r=.tuple #[u,.int .i64 0]/\SlI H' u w
theorem xL{l:List Int}{k:Nat}(hk:k<l.length)(h:oz (l.take k)=true):oz (l.take (k+1))=(decide (0<=l.getD k 0)&&decide (l.getD k 0<=255)):=by
 unfold oz at *;rw[List.take_succ_eq_append_getElem hk,List.all_append,h];simp[au₀,hk]
theorem E1{l:List Int}{k:Nat}(hk:k<l.length)(h:(decide (0<=l.getD k 0)&&decide (l.getD k 0<=255))=false):oz l=false:=by
 rw[Bool.eq_false_iff];intro h2;have:=List.all_eq_true.1 h2 (l.getD k 0) (by rw[au₀,bc₀ hk];exact List.getElem_mem hk);rw[this]at h;cases h
section
variable {lo:Nat}{H:Heap}{v:Value}{l:List Int}
open XMDc
theorem Sk{n:Int}(hv:SlI H v l)(hl:l.length<=100000)(hn:IntKind.i64.min<=n/\n<=IntKind.i64.max)(hlo:lo<=H.length):Ev cp lo 40 [v,.int .i64 n] H (fun r H'=>Ext H H'/\QN H' r (Cj l n)):=by
 obtain⟨ad,c,ev⟩:=hv.len;have hv0:=hv;rw[ev]at hv ⊢;refine stG rfl rfl ?_;unfold PQ;simp only[kB,aC];refine aG ?_;refine aT (fun k S H'=>(H=H'/\oz (l.take k)=true)/\∃(z:Nat->Value),S=[.slice ad l.length c,.int .i64 n,z 2,z 3,z 4,z 5,z 6,.slice ad l.length c,.int .i64 (l.length:Nat),.int .i64 (k:Nat),z 10]) l.length ⟨⟨rfl,rfl⟩,aJ rfl⟩ ?_ ?_ ?_
 ·rintro k S H' hk ⟨_,z,rfl⟩
  exact⟨decide ((k:Int)<(l.length:Nat)),by simp(disch:=try exact dO)only[evB,xtr,Nat.reduceAdd,Nat.reduceBEq,Int.reduceToNat, *],by simp⟩
 ·rintro k S H' hk ⟨⟨rfl,hcw⟩,z,rfl⟩
  have hcw2:=xL hk hcw;have hno:=E1 hk;obtain⟨b1,o1,x1,i1,g1,e1⟩:=Gr hv hk;generalize l.getD k 0=x at e1 hcw2 hno;replace hno:False\/_:=.inr hno;clear hcw;refine aG ?_;by_cases hx:0<=x/\x<=255
  ·obtain⟨hx1,hx2⟩:=hx
   rw[decide_eq_true hx1,decide_eq_true hx2]at hcw2;have hd1:decide (x<0)=false:=decide_eq_false byO;have hd2:decide (x>255)=false:=decide_eq_false byO;have hd3:decide (255<x)=false:=decide_eq_false byO;refine aN ?_ ?_<;>intro h
   ·exfalso;first|(simp at h;done)|cases h
   clear h hd1 hd2 hd3;refine aG ?_;exact⟨⟨trivial,hcw2⟩,aJ ncM⟩
  ·have hc:oz l=false:=hno.resolve_left id (by
    simp only[Bool.and_eq_false_iff,ai₀];omega)
   have hd:(decide (x<0) || decide (x>255))=true:=by simp;omega
   refine aN ?_ ?_<;>intro h
   ·refine aG ?_
    refine bg ?_;exact⟨Ext.refl _,by unfold Cj;rw[hc];rfl⟩
   ·exfalso;first|(simp at h;omega)|cases h
 ·rintro S H' ⟨⟨rfl,hcw⟩,z,rfl⟩
  rw[List.take_length]at hcw;unfold Cj;rw[hcw];simp only[Bool.true_eq_false,if_false];clear hcw;(try simp only[aC]);by_cases h8:n>8192
  ·have hd:decide (n>8192)=true:=decide_eq_true h8
   rw[if_pos h8];refine aN ?_ ?_<;>intro h
   ·refine aG ?_
    refine bg ?_;exact⟨Ext.refl _,rfl⟩
   ·simp at h
  have hd:decide (n>8192)=false:=decide_eq_false h8;rw[if_neg h8];refine aN ?_ ?_<;>intro h
  ·simp at h
  clear h hd;(try simp only[aC]);by_cases hnl:n<l.length
  ·have hd:decide (n<(l.length:Nat))=true:=decide_eq_true hnl
   rw[if_pos hnl];refine aN ?_ ?_<;>intro h
   ·refine aG ?_
    refine bg ?_;exact⟨Ext.refl _,rfl⟩
   ·simp at h
  have hd:decide (n<(l.length:Nat))=false:=decide_eq_false hnl;rw[if_neg hnl];refine aN ?_ ?_<;>intro h
  ·simp at h
  clear h hd;obtain⟨m,rfl⟩:∃m:Nat,n=((l.length+m:Nat):Int):=⟨n.toNat-l.length,byO⟩;rw[show(((l.length+m:Nat):Int)).toNat-l.length=m by omega];replace hnl:l.length+m<=8192:=byO;replace h8:m<=8192:=byO;refine aG ?_;have hxb:Ext H (H++[some (ak (List.replicate (l.length+m) 0))]):=Ext.app _ _;have hg0:(H++[some (ak (List.replicate (l.length+m) 0))]).get H.length=some (ak (List.replicate (l.length+m) 0)):=aH;generalize H++[some (ak (List.replicate (l.length+m) 0))]=H0 at hxb hg0;have hbl:=Heap.get_lt hg0;refine cY ?_;rw[<-ev];refine HP hlo hg0 (by simp) (hv0.mono hxb) ?_;intro w;rw[ev];have hcp:l.take (l.length+m)++(List.replicate (l.length+m) 0).drop (min l.length (l.length+m))=gu l 0++List.replicate (m-0) 0:=by
   rw[List.take_of_length_le byO,Nat.min_eq_left byO,List.drop_replicate,Nat.sub_zero,show l.length+m-l.length=m by omega];simp[gu]
  rw[hcp];have hx1:Ext H (List.set H0 H.length (some (ak (gu l 0++List.replicate (m-0) 0)))):=keepSet.ext hxb (Nat.le_refl _);have hg1:Heap.get (List.set H0 H.length (some (ak (gu l 0++List.replicate (m-0) 0)))) H.length=some (ak (gu l 0++List.replicate (m-0) 0)):=aE hbl;generalize List.set H0 H.length (some (ak (gu l 0++List.replicate (m-0) 0)))=H1 at hx1 hg1;clear hg0 hcp hxb hbl;refine aG ?_;refine aT (fun j S H'=>(Ext H H'/\H'.get H.length=some (ak (gu l j++List.replicate (m-j) 0)))/\∃(z:Nat->Value),S=[.slice ad l.length c,.int .i64 ((l.length+m:Nat):Int),z 2,z 3,z 4,.slice (some ⟨H.length,0,none⟩) (l.length+m) (l.length+m),.int .i64 ((l.length+j:Nat):Int),z 7,z 8,z 9,z 10]) m ⟨⟨hx1,hg1⟩,aJ ncM⟩ ?_ ?_ ?_
  ·rintro j S H' hj ⟨_,z,rfl⟩
   exact⟨decide (((l.length+j:Nat):Int)<((l.length+m:Nat):Int)),by simp(disch:=try exact dO)only[evB,xtr,Nat.reduceAdd,Nat.reduceBEq,Int.reduceToNat, *],by simp⟩
  ·rintro j S H2 hj ⟨⟨hx2,hg2⟩,z,rfl⟩
   clear hg1 hx1;have hbl:=Heap.get_lt hg2;have hset:∀y,(ak (gu l j++List.replicate (m-j) 0)).set (l.length+j) (.int .i64 y)=ak ((gu l j++[y])++List.replicate (m-(j+1)) 0):=by
    intro y;rw[show m-j=(m-(j+1))+1 by omega,List.replicate_succ];unfold ak;rw[List.map_append,List.set_append_right _ _ (by simp[lW]),ay₀,lW,Nat.sub_self];simp
   have hYl:(ak (gu l j++List.replicate (m-j) 0)).length<=l.length+m/\l.length+m<=(ak (gu l j++List.replicate (m-j) 0)).length:=by
    rw[jh,as₀,lW,List.length_replicate];omega
   rw[Ci];replace hset:False\/_:=.inr hset;obtain⟨i,hi⟩:∃i,False\/l.length+j=i:=⟨_,.inr rfl⟩;rw[hi.resolve_left id]at hset ⊢;have hil:i<l.length+m:=by have:=hi.resolve_left id;omega
   generalize ak (gu l j++List.replicate (m-j) 0)=Y at hg2 hYl hset;have hY1:∀y,(Y.set i (.int .i64 y))[i]?=some (.int .i64 y):=fun y=>by rw[List.getElem?_set_self byO]
   have hfin:False\/∀(y:Int) (H':Heap),y=zq l.length i->Ext H H'->H'.get H.length=some (Y.set i (.int .i64 y))->(Ext H H'/\H'.get H.length=some (ak ((gu l j++[zq l.length i])++List.replicate (m-(j+1)) 0))):=by
    right;intro y H' hy h1 h2;subst hy;exact⟨h1,by rw[h2,hset.resolve_left id]⟩
   have hpv:False\/yF l.length i=if i=l.length then 129 else if 130+149*(i+1)%253>254 then 130+149*(i+1)%253-254 else 130+149*(i+1)%253:=.inr rfl
   have hi2:((i+1:Nat):Int)=((l.length+(j+1):Nat):Int):=by have:=hi.resolve_left id;omega
   rw[<-hi2];clear hi2;have hll:Ext H (List.set H2 H.length (some (Y.set i (.int .i64 129)))):=keepSet.ext hx2 (Nat.le_refl _);have em:(149*((i:Int)+1)).tmod 253=((149*(i+1)%253:Nat):Int):=by rw[Int.tmod_eq_emod_of_nonneg byO];omega
   have hq:149*(i+1)%253<=252:=byO;generalize 149*(i+1)%253=q at em hq hpv;refine aG ?_;have hgY:=hY1 129;have hYl1:(Y.set i (.int .i64 129)).length<=l.length+m/\l.length+m<=(Y.set i (.int .i64 129)).length:=by simp;omega
   have hg3:Heap.get (List.set H2 H.length (some (Y.set i (.int .i64 129)))) H.length=some (Y.set i (.int .i64 129)):=aE hbl;have hbl3:=Heap.get_lt hg3;by_cases hj0:i=l.length
   ·have hd:decide ((i:Int)>(l.length:Nat))=false:=decide_eq_false byO
    have hp:=hpv.resolve_left id;rw[if_pos hj0]at hp;have hfi:=hfin.resolve_left id 129 _ (by unfold zq;rw[hp];rfl) hll hg3;generalize List.set H2 H.length (some (Y.set i (.int .i64 129)))=H3 at hfi hg3 hbl3;generalize Y.set i (.int .i64 129)=Y1 at hgY hYl1 hg3;replace hfi:False\/_:=.inr hfi;replace hj0:i<=l.length/\l.length<=i:=byO;clear hp hY1;refine aN ?_ ?_<;>intro h
    ·simp at h
    clear h hd;refine aG ?_;refine aN ?_ ?_<;>intro h
    ·simp at h
    clear h;refine aG ?_;exact⟨hfi.resolve_left id,aJ ncM⟩
   ·have hd:decide ((i:Int)>(l.length:Nat))=true:=decide_eq_true (by have:=hi.resolve_left id;omega)
    have hp:=hpv.resolve_left id;rw[if_neg hj0]at hp;have hss:∀y,(Y.set i (.int .i64 129)).set i (.int .i64 y)=Y.set i (.int .i64 y):=fun y=>List.set_set ..;generalize hY1e:Y.set i (.int .i64 129)=Y1 at hgY hYl1 hg3 hss;have hx3:Ext H (List.set H2 H.length (some Y1)):=by rw[<-hY1e];exact hll
    generalize List.set H2 H.length (some Y1)=H3 at hg3 hbl3 hx3;clear hY1e hll hg2 hbl hbl3;have hbl3:=Heap.get_lt hg3;replace hp:False\/_:=.inr hp;replace hss:False\/_:=.inr hss;refine aN ?_ ?_<;>intro h
    ·clear h hd
     refine aG ?_;rw[show(129:Int)+((q:Int)+1)=((130+q:Nat):Int) by omega];generalize hw:130+q=w at hp;replace hw:w<=382/\q<=w:=byO;clear em hpv hY1;have hgY2:(Y1.set i (.int .i64 (w:Nat)))[i]?=some (.int .i64 (w:Nat)):=by rw[List.getElem?_set_self byO]
     have hg4:Heap.get (List.set H3 H.length (some (Y1.set i (.int .i64 (w:Nat))))) H.length=some (Y1.set i (.int .i64 (w:Nat))):=aE hbl3;have hx4:Ext H (List.set H3 H.length (some (Y1.set i (.int .i64 (w:Nat))))):=keepSet.ext hx3 (Nat.le_refl _);have hbl4:=Heap.get_lt hg4;have hYl2:(Y1.set i (.int .i64 (w:Nat))).length<=l.length+m/\l.length+m<=(Y1.set i (.int .i64 (w:Nat))).length:=by simp;omega
     have hss2:False\/∀y,(Y1.set i (.int .i64 (w:Nat))).set i (.int .i64 y)=Y1.set i (.int .i64 y):=.inr (fun y=>List.set_set ..);generalize List.set H3 H.length (some (Y1.set i (.int .i64 (w:Nat))))=H4 at hg4 hx4 hbl4;by_cases h254:w>254
     ·have hd:decide ((w:Int)>254)=true:=decide_eq_true byO
      have hp2:=hp.resolve_left id;rw[if_pos h254]at hp2;have e2:=hss.resolve_left id (w:Nat);generalize Y1.set i (.int .i64 (w:Nat))=Y2 at hgY2 hg4 hYl2 hss2 e2;clear hgY hg3 hbl3 hp e2;replace hp2:False\/_:=.inr hp2;refine aN ?_ ?_<;>intro h
      ·clear h hd
       refine aG ?_;have hfi:=hfin.resolve_left id ((w:Int)-254) (List.set H4 H.length (some (Y2.set i (.int .i64 ((w:Int)-254))))) (by unfold zq;rw[hp2.resolve_left id];omega) (keepSet.ext hx4 (Nat.le_refl _)) (by rw[aE hbl4,hss2.resolve_left id,hss.resolve_left id]);exact⟨hfi,aJ ncM⟩
      ·simp at h
     ·have hd:decide ((w:Int)>254)=false:=decide_eq_false byO
      have hp2:=hp.resolve_left id;rw[if_neg h254]at hp2;have hfi:=hfin.resolve_left id (w:Nat) H4 (by unfold zq;rw[hp2]) hx4 (by rw[hg4,hss.resolve_left id]);replace hfi:False\/_:=.inr hfi;clear hp2 hp;generalize Y1.set i (.int .i64 (w:Nat))=Y2 at hgY2 hg4 hYl2 hss2;refine aN ?_ ?_<;>intro h
      ·simp at h
      ·clear h hd
       refine aG ?_;exact⟨hfi.resolve_left id,aJ ncM⟩
    ·simp at h
  ·rintro S H2 ⟨⟨hx2,hg2⟩,z,rfl⟩
   rw[Nat.sub_self,List.replicate_zero,List.append_nil]at hg2;have hsl:SlI H2 (.slice (some ⟨H.length,0,none⟩) (l.length+m) (l.length+m)) (gu l m):=Sl.whole hg2 (lW l m);clear hg2;refine aG ?_;refine bg ?_;exact⟨hx2,_,rfl,hsl⟩
end
section
variable {lo:Nat}{H:Heap}{v:Value}{l:List Int}
open XMDc
end
end Go.Proofs.YtmnlgdpdgjbfgaaGreat
