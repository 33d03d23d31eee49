/- Data Matrix: words that are spoilt, and what is read of them (plain law). Data Matrix: the laws' helpers sizeOf and numbers. Data Matrix: the law Corrects. The arguments of the laws of Data Matrix. -/
import Derived.Test.YtmnlgdpdgjbfgaaGreatD20
import Derived.Test.YtmnlgdpdgjbfgaaGreatD23
import Derived.Test.YtmnlgdpdgjbfgaaGreatD24
set_option linter.unusedVariables false
set_option linter.unusedSimpArgs false
set_option linter.unusedSectionVars false
namespace Go.Proofs.YtmnlgdpdgjbfgaaGreat
open Go.Abs Go.RS
set_option linter.unusedSimpArgs false
set_option linter.unusedVariables false
theorem sel_one{φ ψ:Nat→Bool}{k:Nat}(hk:ψ k=true)(hk0:φ k=false)(h:∀i,i≠k→ψ i=φ i):∀N,(sel ψ N).length=(sel φ N).length+if k<N then 1 else 0
 | 0=>rfl
 | N+1=>by
  have ih:=sel_one hk hk0 h N
  rw[sel_succ,sel_succ,List.length_append,List.length_append,ih]
  by_cases e:N=k
  ·subst e
   rw[hk,hk0];simp
  ·rw[h N e]
   have e3:k<N+1↔k<N:=by omega
   simp only[e3];omega
theorem getD_setE{α:Type}{l:List α}{i j:Nat}{v d:α}(h:i<l.length):(l.set i v).getD j d=if j=i then v else l.getD j d:=by
 rw[List.getD_eq_getElem?_getD,List.getElem?_set]
 by_cases e:j=i
 ·rw[if_pos e.symm,if_pos h,if_pos e];rfl
 ·rw[if_neg (Ne.symm e),if_neg e,←List.getD_eq_getElem?_getD]
def dfX(n:Nat)(wl out:List Int)(x:Nat):Nat:=(sel (fun k=>decide (out.getD (x+k*n) 0≠wl.getD (x+k*n) 0)) (cnt wl.length n x)).length
def dfA(wl out:List Int):Nat:=(sel (fun j=>decide (out.getD j 0≠wl.getD j 0)) wl.length).length
theorem mod_div(j n:Nat):j%n+j/n*n=j:=by rw[Nat.mul_comm];have:=Nat.div_add_mod j n;omega
theorem df_sum{n:Nat}(hn:0<n)(wl out:List Int):sumT (dfX n wl out) n=dfA wl out:=by
 refine(sel_blocks hn (fun x k=>decide (out.getD (x+k*n) 0≠wl.getD (x+k*n) 0)) wl.length).trans ?_
 unfold dfA
 exact congrArg List.length (sel_congr fun j _=>by simp only[mod_div])
theorem dfX_set{n:Nat}(hn:0<n){wl out:List Int}{j:Nat}{v:Int}(hj:j<wl.length)(hl:out.length=wl.length)(h0:out.getD j 0=wl.getD j 0)(hv:v≠wl.getD j 0){x:Nat}(hx:x<n):dfX n wl (out.set j v) x=if x=j%n then dfX n wl out x+1 else dfX n wl out x:=by
 have hg:∀i,(out.set j v).getD i 0=if i=j then v else out.getD i 0:=fun i=>getD_setE (by omega)
 unfold dfX
 by_cases e:x=j%n
 ·subst e
  rw[if_pos rfl,sel_one (k:=j/n) (φ:=fun k=>decide (out.getD (j%n+k*n) 0≠wl.getD (j%n+k*n) 0)) (ψ:=fun k=>decide ((out.set j v).getD (j%n+k*n) 0≠wl.getD (j%n+k*n) 0)) ?_ ?_ ?_,if_pos (div_lt_cnt hn hj)]
  ·simp only[mod_div,hg,if_pos rfl]
   exact decide_eq_true hv
  ·simp only[mod_div]
   exact decide_eq_false (fun h=>h h0)
  ·intro i hi
   simp only[hg]
   rw[if_neg]
   intro h
   have:=(ilv_blk (n:=n) (W:=fun _=>[]) (k:=i) hx).2
   rw[h]at this;exact hi this.symm
 ·rw[if_neg e]
  exact congrArg List.length (sel_congr fun i _=>by
   simp only[hg]
   rw[if_neg]
   intro h
   have:=(ilv_blk (n:=n) (W:=fun _=>[]) (k:=i) hx).1
   rw[h]at this;exact e this.symm)
structure SpI (n ck:Nat)(wl out us:List Int):Prop where
 lo:out.length=wl.length
 lu:us.length=n
 by':∀i,i<wl.length→0≤out.getD i 0∧out.getD i 0≤255
 us':∀x,x<n→us.getD x 0=((dfX n wl out x:Nat):Int)∧2*dfX n wl out x≤ck
theorem SpI.step{n ck:Nat}(hn:0<n){wl out us:List Int}{j:Nat}{v:Int}(h:SpI n ck wl out us)(hj:j<wl.length)(h0:out.getD j 0=wl.getD j 0)(hv:v≠wl.getD j 0)(hb:0≤v∧v≤255)(hc:2*us.getD (j%n) 0+2≤(ck:Int)) :
  SpI n ck wl (out.set j v) (us.set (j%n) (us.getD (j%n) 0+1))∧dfA wl (out.set j v)=dfA wl out+1:=by
 obtain⟨h1,h2,h3,h4⟩:=h
 have hm:=Nat.mod_lt j hn
 have hd:=fun x (hx:x<n)=>dfX_set hn hj h1 h0 hv hx
 refine⟨⟨by simpa using h1,by simpa using h2,fun i hi=>?_,fun x hx=>?_⟩,?_⟩
 ·rw[getD_setE (by omega)]
  split
  ·exact hb
  ·exact h3 i hi
 ·obtain⟨u1,u2⟩:=h4 x hx
  rw[getD_setE (by omega),hd x hx]
  by_cases e:x=j%n
  ·subst e
   rw[if_pos rfl,if_pos rfl];omega
  ·rw[if_neg e,if_neg e];exact⟨u1,u2⟩
 ·rw[←df_sum hn,←df_sum hn,sumT_add1 hd,if_pos hm]
theorem rangeZ{n i:Nat}{F:Nat→Int}(h:i<n):((List.range n).map F).getD i 0=F i:=by
 rw[List.getD_eq_getElem?_getD,List.getElem?_map,List.getElem?_range h];rfl
end Go.Proofs.YtmnlgdpdgjbfgaaGreat
namespace Go.Proofs.YtmnlgdpdgjbfgaaGreat
open Go.Abs Go.RS
set_option linter.unusedSimpArgs false
set_option linter.unusedVariables false
set_option maxRecDepth 20000
theorem own_realI{lo:Nat}{H:Heap}{v:Value}{b:Nat}{l:List Int}(h:Own lo 1 H v b (intL l))(hl:0<l.length):v=.slice (some ⟨b,0,some 1⟩) l.length l.length∧H.get b=some (intL l):=by
 obtain⟨_,⟨_,h⟩|⟨n,_,h1,rfl,h2⟩⟩:=h
 ·have:=congrArg List.length h;rw[intL_len]at this;simp only[List.length_nil]at this;omega
 ·rw[intL_len,Nat.mul_one]at h1
  subst h1;exact⟨rfl,h2⟩
section
variable {lo:Nat}{H:Heap}
end
end Go.Proofs.YtmnlgdpdgjbfgaaGreat
namespace Go.Proofs.YtmnlgdpdgjbfgaaGreat
open Go.Abs Go.RS
set_option linter.unusedSimpArgs false
set_option linter.unusedVariables false
set_option maxRecDepth 20000
section
variable {lo:Nat}{H:Heap}
end
end Go.Proofs.YtmnlgdpdgjbfgaaGreat
namespace Go.Proofs.YtmnlgdpdgjbfgaaGreat
open Go.Abs
theorem size_of{B:Nat}{H:Heap}{v:Value}(h:HasArg B H (.rcd [.int .i64,.int .i64,.int .i64,.int .i64,.int .i64,.int .i64,.int .i64]) v):∃s:Sz,v=s.val:=by
 simp only[HasArg]at h
 obtain⟨cs,rfl,h⟩:=h
 obtain⟨_,_,h0,h1,h⟩:=all_cons h
 obtain⟨_,_,rfl,h2,h⟩:=all_cons h
 obtain⟨_,_,rfl,h3,h⟩:=all_cons h
 obtain⟨_,_,rfl,h4,h⟩:=all_cons h
 obtain⟨_,_,rfl,h5,h⟩:=all_cons h
 obtain⟨_,_,rfl,h6,h⟩:=all_cons h
 obtain⟨_,_,rfl,h7,h⟩:=all_cons h
 rw[all_nil h]at h0
 obtain⟨a,rfl,_⟩:=has_int h1
 obtain⟨b,rfl,_⟩:=has_int h2
 obtain⟨c,rfl,_⟩:=has_int h3
 obtain⟨d,rfl,_⟩:=has_int h4
 obtain⟨e,rfl,_⟩:=has_int h5
 obtain⟨f,rfl,_⟩:=has_int h6
 obtain⟨g,rfl,_⟩:=has_int h7
 refine⟨⟨a,b,c,d,e,f,g⟩,?_⟩
 have:cs=#[.int .i64 a,.int .i64 b,.int .i64 c,.int .i64 d,.int .i64 e,.int .i64 f,.int .i64 g]:=Array.toList_inj.1 (by rw[h0];rfl)
 rw[this];rfl
end Go.Proofs.YtmnlgdpdgjbfgaaGreat
