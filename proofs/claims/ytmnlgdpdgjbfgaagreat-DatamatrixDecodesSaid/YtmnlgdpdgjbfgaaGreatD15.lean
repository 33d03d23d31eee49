/- Lemmas. -/
import Derived.Test.YtmnlgdpdgjbfgaaGreatD14
set_option linter.all false
namespace Go.Proofs.YtmnlgdpdgjbfgaaGreat
open Go.Abs
set_option maxRecDepth 20000
section
variable {lo:Nat}{H:Heap}{sb cb:Nat}{v:Value}{p:List UInt8}{cs:List Nat}
theorem keepSet{b:Nat}{H:Heap}{x:Option (List Value)}:Keep b H (List.set H b x):=⟨by simp,fun i _ hne=>aH (fun e=>hne e.symm)⟩
open XMDc
end
section
variable {lo:Nat}{H:Heap}{sb cb:Nat}{v:Value}{p:List UInt8}{cs:List Nat}
open XMDc
end
section
variable {lo:Nat}{H:Heap}{sb cb:Nat}{v:Value}{p:List UInt8}{cs:List Nat}
open XMDc
end
section
variable {lo:Nat}{H:Heap}{sb cb:Nat}{v:Value}{p:List UInt8}{cs:List Nat}
open XMDc
end
def PM(i:Nat)(s:List Nat×Bool)(o:Opt):List Nat×Bool:=if oR s.1 o<s.1.getD i 0 then(s.1.set i (oR s.1 o),true) else s
def MJ(i:Nat)(L:List Opt)(s:List Nat×Bool):List Nat×Bool:=L.foldl (PM i) s
def round(L:Nat->List Opt)(a:Nat):Nat->List Nat×Bool->List Nat×Bool
 | 0,s=>s
 | k+1,s=>MJ (a*19+k) (L k) (round L a k s)
inductive Stl (L:Nat->List Opt) (a:Nat):List Nat->List Nat->Prop
 | done {c c':List Nat}:round L a 19 (c,false)=(c',false)->Stl L a c c'
 | more {c d c':List Nat}:round L a 19 (c,false)=(d,true)->Stl L a d c'->Stl L a c c'
theorem Ac{l:List Nat}{i j x:Nat}(h:i<l.length):(l.set i x).getD j 0=if j=i then x else l.getD j 0:=by
 simp only[au₀,List.getElem?_set];by_cases e:i=j
 ·subst e;simp[h]
 ·rw[if_neg e,if_neg (fun e'=>e e'.symm)]
structure Stp (i:Nat)(s t:List Nat×Bool):Prop where
 len:t.1.length=s.1.length
 le:∀j,t.1.getD j 0<=s.1.getD j 0
 ne:∀j,j≠i->t.1.getD j 0=s.1.getD j 0
 sum:t.1.sum<=s.1.sum
 fl:t.2=true->s.2=true\/t.1.sum<s.1.sum
 fl2:s.2=true->t.2=true
structure Row (a:Nat)(s t:List Nat×Bool):Prop where
 len:t.1.length=s.1.length
 le:∀j,t.1.getD j 0<=s.1.getD j 0
 ne:∀j,(j<a*19\/a*19+19<=j)->t.1.getD j 0=s.1.getD j 0
 sum:t.1.sum<=s.1.sum
 fl:t.2=true->s.2=true\/t.1.sum<s.1.sum
 fl2:s.2=true->t.2=true
theorem Row.refl(a:Nat)(s:List Nat×Bool):Row a s s:=⟨rfl,fun _=>Nat.le_refl _,fun _ _=>rfl,Nat.le_refl _,fun h=>.inl h,fun h=>h⟩
theorem Row.step{a k:Nat}{s t u:List Nat×Bool}(h:Row a s t)(hk:k<19)(h2:Stp (a*19+k) t u):Row a s u:=by
 refine⟨h2.len.trans h.len,fun j=>Nat.le_trans (h2.le j) (h.le j),fun j hj=>(h2.ne j byO).trans (h.ne j hj),Nat.le_trans h2.sum h.sum,fun e=>?_,fun e=>h2.fl2 (h.fl2 e)⟩;rcases h2.fl e with e|e
 ·rcases h.fl e with e|e
  ·exact .inl e
  ·exact .inr (Nat.lt_of_le_of_lt h2.sum e)
 ·exact .inr (bc₀ e h.sum)
structure Fix (L:Nat->List Opt)(a:Nat)(c c':List Nat):Prop where
 len:c'.length=c.length
 le:∀j,c'.getD j 0<=c.getD j 0
 ne:∀j,(j<a*19\/a*19+19<=j)->c'.getD j 0=c.getD j 0
 fix:∀k,k<19->∀o ∈ L k,c'.getD (a*19+k) 0<=oR c' o
 got:∀k,k<19->c'.getD (a*19+k) 0=c.getD (a*19+k) 0\/∃o ∈ L k,c'.getD (a*19+k) 0=oR c' o
def MM(n a:Nat)(c:List Nat):Nat->List Nat
 | 0=>c
 | k+1=>(MM n a c k).set (a*19+k) 1073741824
def PN(n a:Nat)(c:List Nat):List Nat:=if a=n then(MM n a c 19).set (a*19) 0 else MM n a c 19
inductive New (p:List UInt8):Nat->List Nat->Prop
 | start:New p (p.length+1) (List.replicate ((p.length+1)*19) 0)
 | step {a:Nat} {c c':List Nat}:New p (a+1) c->Stl (Gf p (PN p.length a c) a) a (PN p.length a c) c'->New p a c'
section
variable {lo:Nat}{H:Heap}{sb cb:Nat}{v:Value}{p:List UInt8}{cs:List Nat}
open XMDc
end
end Go.Proofs.YtmnlgdpdgjbfgaaGreat
