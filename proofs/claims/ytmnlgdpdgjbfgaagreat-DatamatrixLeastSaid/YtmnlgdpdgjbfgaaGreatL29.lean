/- Lemmas. -/
import Derived.Test.YtmnlgdpdgjbfgaaGreatL28
set_option linter.all false
namespace Go.Proofs.YtmnlgdpdgjbfgaaGreat
open Go.Abs
variable{p:List UInt8}
set_option maxRecDepth 20000
section
variable {A H:Heap}{db:Nat}{wv:Value}{ws:List Nat}{a:Nat}{out:List UInt8}{lo:Nat}
open XYe
end
section
variable {A H:Heap}{db:Nat}{wv:Value}{ws:List Nat}{a:Nat}{out:List UInt8}{lo:Nat}
open XYe
end
section
variable {A H:Heap}{db:Nat}{wv:Value}{ws:List Nat}{a:Nat}{out:List UInt8}{lo:Nat}
open XYe
end
open XYe
section
variable {lo:Nat}{H:Heap}{v:Value}{l:List Int}
end
def Kz(p:List UInt8)(a:Nat):List Opt:=(List.range (min (p.length-a) 1749)).map fun i=>cW a (i+1)
def jP(p:List UInt8)(a:Nat):List Opt:=fH a++if a<p.length then[dv (by' p a) a]++jh p a++Kz p a else[]
def gT(p:List UInt8)(a st:Nat):List Opt:=
 if st=0 then jP p a else if st<9 then im p a (st-1) 1 false else if st<17 then im p a (st-9) 9 true else if st=17 then sP p a else oU p a
theorem fK{a:Nat}{o:Opt}:o ∈ Kz p a↔∃n,1<=n/\n<=1749/\a+n<=p.length/\o=cW a n:=by
 unfold Kz;rw[List.mem_map];constructor
 ·rintro⟨i,hi,rfl⟩
  have:=List.mem_range.1 hi;exact⟨i+1,byO,byO,byO,rfl⟩
 ·rintro⟨n,h1,h2,h3,rfl⟩
  exact⟨n-1,List.mem_range.2 byO,by rw[show n-1+1=n by omega]⟩
theorem wx{c:List Nat}{a st:Nat}{o:Opt}(h:o ∈ dJ p c a st):o ∈ gT p a st:=by
 unfold dJ at h;unfold gT;split at h
 ·rename_i hs
  rw[if_pos hs];unfold oP at h;unfold jP;rcases List.mem_append.1 h with h|h
  ·exact List.mem_append_left _ h
  ·refine List.mem_append_right _ ?_
   split at h
   ·rename_i ha
    rw[if_pos ha];rcases List.mem_append.1 h with h|h
    ·exact List.mem_append_left _ h
    ·refine List.mem_append_right _ (fK.2 ?_)
     obtain rfl:=List.mem_singleton.1 h;obtain⟨k,h1,h2,h3⟩:=nO (cs:=c) (at':=a) (min (p.length-a) 1749) byO;exact⟨k,h1,byO,byO,h3⟩
   ·cases h
 ·rename_i hs
  rw[if_neg hs];exact h
theorem nP{c:List Nat}{a:Nat}:∀{n k:Nat},1<=k->k<=n->bD c (fW c a n)<=bD c (cW a k)
 | 0,k,h1,h2=>by omega
 | n+1,k,h1,h2=>by
  rw[fW];split
  ·have:k=1:=byO
   subst this;exact Nat.le_refl _
  ·split
   ·rename_i h
    by_cases hk:k=n+1
    ·subst hk;exact Nat.le_refl _
    ·have:=nP (c:=c) (a:=a) (n:=n) h1 byO;omega
   ·rename_i h
    by_cases hk:k=n+1
    ·subst hk;omega
    ·exact nP h1 byO
theorem Bk(c:List Nat){a st:Nat}{o:Opt}(h:o ∈ gT p a st):∃o' ∈ dJ p c a st,bD c o'<=bD c o:=by
 unfold gT at h;unfold dJ;split at h
 ·rename_i hs
  rw[if_pos hs];unfold jP at h;unfold oP;rcases List.mem_append.1 h with h|h
  ·exact⟨o,List.mem_append_left _ h,Nat.le_refl _⟩
  ·split at h
   ·rename_i ha
    rw[if_pos ha];rcases List.mem_append.1 h with h|h
    ·exact⟨o,List.mem_append_right _ (List.mem_append_left _ h),Nat.le_refl _⟩
    ·obtain⟨n,h1,h2,h3,rfl⟩:=fK.1 h
     exact⟨uG p c a,List.mem_append_right _ (by simp),nP h1 byO⟩
   ·cases h
 ·rename_i hs
  rw[if_neg hs];exact⟨o,h,Nat.le_refl _⟩
theorem nm{a st:Nat}(ha:a<=p.length):∀o ∈ gT p a st,o.ok p.length a:=by
 intro o ho;by_cases hs:st=0
 ·unfold gT jP at ho
  rw[if_pos hs]at ho;rcases List.mem_append.1 ho with h|h
  ·exact AI ha o h
  ·split at h
   ·rename_i hap
    rcases List.mem_append.1 h with h|h
    ·have:o ∈ dJ p [] a 0:=by unfold dJ oP;rw[if_pos rfl,if_pos hap];simp only[bd₀]at h ⊢;rcases h with h|h<;>simp[h]
     exact iA ha o this
    ·obtain⟨n,h1,h2,h3,rfl⟩:=fK.1 h
     exact uF h1 h2 h3
   ·cases h
 ·have:o ∈ dJ p [] a st:=by
   unfold gT at ho;unfold dJ;rw[if_neg hs]at ho ⊢;exact ho
  exact iA ha o this
inductive Pth (p:List UInt8):Nat->Nat->Nat->Prop
 | nil:Pth p p.length 0 0
 | cons {a st m:Nat} {o:Opt}:a<=p.length->st<19->o ∈ gT p a st->Pth p o.nx o.md m->Pth p a st (o.sz+o.run+m)
theorem zZ{c:List Nat}(hs:Sol p c){a st m:Nat}(h:Pth p a st m):cst c a st<=m:=by
 induction h with
 | nil=>
  have:=(hs.row p.length (Nat.le_refl _)).fin rfl;show c.getD (p.length*19+0) 0<=0;rw[Nat.add_zero,this];exact Nat.le_refl _
 | @cons a st m o ha hst ho _ ih=>
  obtain⟨o',ho',ht⟩:=Bk c ho;have h1:=(hs.row a ha).fix st hst o' ho';have h2:bD c o=o.sz+o.run+cst c o.nx o.md:=rfl;show c.getD (a*19+st) 0<=_;omega
theorem BI{c:List Nat}(hs:Sol p c):∀(k:Nat) {a st:Nat},a<=p.length->st<19->cst c a st=k->k<1073741824->Pth p a st k:=by
 intro k
 induction k using Nat.strongRecOn with
 | ind k ih=>
  intro a st ha hst hc hk;by_cases hn:st=0/\a=p.length
  ·obtain⟨rfl,rfl⟩:=hn
   have:=(hs.row p.length (Nat.le_refl _)).fin rfl;have h0:cst c p.length 0=0:=by show c.getD (p.length*19+0) 0=0;rw[Nat.add_zero];exact this
   rw[h0]at hc;subst hc;exact .nil
  ·obtain⟨o,ho,ht⟩:=Ad hs ha hst byO hn
   have hok:=iA ha o ho;have h2:bD c o=o.sz+o.run+cst c o.nx o.md:=rfl;have hsz:=hok.sz;have:=Pth.cons ha hst (wx ho) (ih (cst c o.nx o.md) byO hok.nx.2 hok.md rfl byO);rw[show k=o.sz+o.run+cst c o.nx o.md by omega];exact this
structure Win (p r:List UInt8)(d:Nat):Prop where
 le:d+p.length<=r.length
 eq:∀i,i<p.length->by' r (d+i)=by' p i
section
variable {p r:List UInt8}{d:Nat}
end
theorem GI{p q:List UInt8}{i:Nat}(h:i<p.length):by' (p++q) i=by' p i:=by
 unfold by';simp[au₀,ax₀ h]
end Go.Proofs.YtmnlgdpdgjbfgaaGreat
