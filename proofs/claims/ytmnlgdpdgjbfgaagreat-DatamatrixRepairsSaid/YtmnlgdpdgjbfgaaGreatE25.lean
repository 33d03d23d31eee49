/- Lemmas. -/
import Derived.Test.YtmnlgdpdgjbfgaaGreatE20
import Derived.Test.YtmnlgdpdgjbfgaaGreatE23
import Derived.Test.YtmnlgdpdgjbfgaaGreatE24
set_option linter.unusedVariables false
set_option linter.unusedSimpArgs false
set_option linter.unusedSectionVars false
namespace Go.Proofs.YtmnlgdpdgjbfgaaGreat
open Go.Abs Go.RS
theorem zT{φ ψ:Nat→Bool}{k:Nat}(hk:ψ k=true)(hk0:φ k=false)(h:∀i,i≠k→ψ i=φ i):∀N,(sel ψ N).length=(sel φ N).length+if k<N then 1 else 0
 | 0=>rfl
 | N+1=>by
  have ih:=zT hk hk0 h N
  rw[bK,bK,List.length_append,List.length_append,ih]
  by_cases e:N=k
  ·subst e
   rw[hk,hk0];simp
  ·rw[h N e]
   have e3:k<N+1↔k<N:=by omega
   simp only[e3];omega
theorem nn{α:Type}{l:List α}{i j:Nat}{v d:α}(h:i<l.length):(l.set i v).getD j d=if j=i then v else l.getD j d:=by
 rw[List.getD_eq_getElem?_getD,List.getElem?_set]
 by_cases e:j=i
 ·rw[if_pos e.symm,if_pos h,if_pos e];rfl
 ·rw[if_neg (Ne.symm e),if_neg e,←List.getD_eq_getElem?_getD]
def dfX(n:Nat)(wl out:List Int)(x:Nat):Nat:=(sel (fun k=>decide (out.getD (x+k*n) 0≠wl.getD (x+k*n) 0)) (cnt wl.length n x)).length
def dfA(wl out:List Int):Nat:=(sel (fun j=>decide (out.getD j 0≠wl.getD j 0)) wl.length).length
theorem uA(j n:Nat):j%n+j/n*n=j:=by rw[Nat.mul_comm];have:=Nat.div_add_mod j n;omega
theorem CA{n:Nat}(hn:0<n)(wl out:List Int):ek (dfX n wl out) n=dfA wl out:=by
 refine(qP hn (fun x k=>decide (out.getD (x+k*n) 0≠wl.getD (x+k*n) 0)) wl.length).trans ?_
 unfold dfA
 exact congrArg List.length (fW fun j _=>by simp only[uA])
theorem Iw{n:Nat}(hn:0<n){wl out:List Int}{j:Nat}{v:Int}(hj:j<wl.length)(hl:out.length=wl.length)(h0:out.getD j 0=wl.getD j 0)(hv:v≠wl.getD j 0){x:Nat}(hx:x<n):dfX n wl (out.set j v) x=if x=j%n then dfX n wl out x+1 else dfX n wl out x:=by
 have hg:∀i,(out.set j v).getD i 0=if i=j then v else out.getD i 0:=fun i=>nn (by omega)
 unfold dfX
 by_cases e:x=j%n
 ·subst e
  rw[if_pos rfl,zT (k:=j/n) (φ:=fun k=>decide (out.getD (j%n+k*n) 0≠wl.getD (j%n+k*n) 0)) (ψ:=fun k=>decide ((out.set j v).getD (j%n+k*n) 0≠wl.getD (j%n+k*n) 0)) ?_ ?_ ?_,if_pos (mK hn hj)]
  ·simp only[uA,hg,if_pos rfl]
   exact decide_eq_true hv
  ·simp only[uA]
   exact decide_eq_false (fun h=>h h0)
  ·intro i hi
   simp only[hg]
   rw[if_neg]
   intro h
   have:=(jm (n:=n) (W:=fun _=>[]) (k:=i) hx).2
   rw[h]at this;exact hi this.symm
 ·rw[if_neg e]
  exact congrArg List.length (fW fun i _=>by
   simp only[hg]
   rw[if_neg]
   intro h
   have:=(jm (n:=n) (W:=fun _=>[]) (k:=i) hx).1
   rw[h]at this;exact e this.symm)
structure SpI (n ck:Nat)(wl out us:List Int):Prop where
 lo:out.length=wl.length
 lu:us.length=n
 by':∀i,i<wl.length→0≤out.getD i 0∧out.getD i 0≤255
 us':∀x,x<n→us.getD x 0=((dfX n wl out x:Nat):Int)∧2*dfX n wl out x≤ck
theorem SpI.step{n ck:Nat}(hn:0<n){wl out us:List Int}{j:Nat}{v:Int}(h:SpI n ck wl out us)(hj:j<wl.length)(h0:out.getD j 0=wl.getD j 0)(hv:v≠wl.getD j 0)(hb:0≤v∧v≤255)(hc:2*us.getD (j%n) 0+2≤(ck:Int)) :
  SpI n ck wl (out.set j v) (us.set (j%n) (us.getD (j%n) 0+1))∧dfA wl (out.set j v)=dfA wl out+1:=by
 obtain⟨h1,h2,h3,h4⟩:=h
 have hm:=Nat.mod_lt j hn
 have hd:=fun x (hx:x<n)=>Iw hn hj h1 h0 hv hx
 refine⟨⟨by simpa using h1,by simpa using h2,fun i hi=>?_,fun x hx=>?_⟩,?_⟩
 ·rw[nn (by omega)]
  split
  ·exact hb
  ·exact h3 i hi
 ·obtain⟨u1,u2⟩:=h4 x hx
  rw[nn (by omega),hd x hx]
  by_cases e:x=j%n
  ·subst e
   rw[if_pos rfl,if_pos rfl];omega
  ·rw[if_neg e,if_neg e];exact⟨u1,u2⟩
 ·rw[←CA hn,←CA hn,nm hd,if_pos hm]
set_option maxRecDepth 20000
theorem Eo{cp:FuncId→Option CF}{lo base:Nat}{z:List Value}{H:Heap}{v w:Value}{b:Nat}{A l:List Int}{R:Value→Heap→Prop}(ho:Own base 1 H v b (bA A))(hlo:lo≤base)(hbl:base≤H.length)(hl:SlI H w l)(hne:0<l.length)(hbig:A.length+l.length≤4294967296)
  (k:∀v' H',Own base 1 H' v' H.length (bA (A++l))→Keep b H H'→H'.length=H.length+1→R v' H'):wpH cp lo (.app 1 z) [v,w] H R:=by
 rcases hl with ⟨rfl,rfl⟩|⟨b',o,sp,cap,xs,rfl,h2,h3,h4,h5⟩
 ·simp at hne
 ·refine dR (b:=b) (cells:=bA A) (c:=bA l) (ho.lower hlo) (by omega) (by omega) hne (by rw[jF];omega) h2 (by omega) (by rw[Nat.mul_one,h3];rfl) (rO l) ?_
  intro v' H' a1 a2 a3
  refine k v' H' ⟨hbl,?_⟩ a2 a3
  rw[qe];exact a1.2
theorem As{lo:Nat}{H:Heap}{v:Value}{b:Nat}{l:List Int}(h:Own lo 1 H v b (bA l))(hl:0<l.length):v=.slice (some ⟨b,0,some 1⟩) l.length l.length∧H.get b=some (bA l):=by
 obtain⟨_,⟨_,h⟩|⟨n,_,h1,rfl,h2⟩⟩:=h
 ·have:=congrArg List.length h;rw[jF]at this;simp only[List.length_nil]at this;omega
 ·rw[jF,Nat.mul_one]at h1
  subst h1;exact⟨rfl,h2⟩
section
variable {lo:Nat}{H:Heap}
end
section
variable {lo:Nat}{H:Heap}
end
open Go.Abs
theorem HO{B:Nat}{H:Heap}{v:Value}(h:HasArg B H (.rcd [.int .i64,.int .i64,.int .i64,.int .i64,.int .i64,.int .i64,.int .i64]) v):∃s:Sz,v=s.val:=by
 simp only[HasArg]at h
 obtain⟨cs,rfl,h⟩:=h
 obtain⟨_,_,h0,h1,h⟩:=all_cons h
 obtain⟨_,_,rfl,h2,h⟩:=all_cons h
 obtain⟨_,_,rfl,h3,h⟩:=all_cons h
 obtain⟨_,_,rfl,h4,h⟩:=all_cons h
 obtain⟨_,_,rfl,h5,h⟩:=all_cons h
 obtain⟨_,_,rfl,h6,h⟩:=all_cons h
 obtain⟨_,_,rfl,h7,h⟩:=all_cons h
 rw[all_nil h]at h0
 obtain⟨a,rfl,_⟩:=jv h1
 obtain⟨b,rfl,_⟩:=jv h2
 obtain⟨c,rfl,_⟩:=jv h3
 obtain⟨d,rfl,_⟩:=jv h4
 obtain⟨e,rfl,_⟩:=jv h5
 obtain⟨f,rfl,_⟩:=jv h6
 obtain⟨g,rfl,_⟩:=jv h7
 refine⟨⟨a,b,c,d,e,f,g⟩,?_⟩
 have:cs=#[.int .i64 a,.int .i64 b,.int .i64 c,.int .i64 d,.int .i64 e,.int .i64 f,.int .i64 g]:=Array.toList_inj.1 (by rw[h0];rfl)
 rw[this];rfl
end Go.Proofs.YtmnlgdpdgjbfgaaGreat
