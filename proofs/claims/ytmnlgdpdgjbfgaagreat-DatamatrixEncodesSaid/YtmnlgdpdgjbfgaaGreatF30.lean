/- Lemmas. -/
import Derived.Test.YtmnlgdpdgjbfgaaGreatF29
set_option linter.all false
namespace Go.Proofs.YtmnlgdpdgjbfgaaGreat
open Go.Abs
variable{p:List UInt8}
set_option maxRecDepth 20000
def u3(u:Nat×Nat×Nat):Nat->Nat
 | 0=>u.1
 | 1=>u.2.1
 | _=>u.2.2
theorem BC{b:Bool}{s k:Nat}(hk:k<40):fi b s k<=128:=by
 unfold fi;repeat' split
 all_goals omega
theorem C1{k:Nat}(hk:k<40):lz k<=127:=by
 unfold lz;repeat' split
 all_goals omega
def NC(p:List UInt8)(a:Nat):List Opt:=(List.range (min (p.length-a) 1749)).map fun i=>dC a (i+1)
def ji(p:List UInt8)(a:Nat):List Opt:=fk a++if a<p.length then[eL (by' p a) a]++kE p a++NC p a else[]
def iI(p:List UInt8)(a st:Nat):List Opt:=
 if st=0 then ji p a else if st<9 then kJ p a (st-1) 1 false else if st<17 then kJ p a (st-9) 9 true else if st=17 then tL p a else pJ p a
theorem ft{a:Nat}{o:Opt}:o ∈ NC p a↔∃n,1<=n/\n<=1749/\a+n<=p.length/\o=dC a n:=by
 unfold NC;rw[List.mem_map];constructor
 ·grind
 ·rintro⟨n,h1,h2,h3,rfl⟩
  exact⟨n-1,List.mem_range.2 byO,by simp_all⟩
theorem yX{c:List Nat}{a st:Nat}{o:Opt}(h:o ∈ dQ p c a st):o ∈ iI p a st:=by
 unfold dQ at h;unfold iI;split at h
 ·rename_i hs
  rw[if_pos hs];unfold ji;rcases List.mem_append.1 h with h|h
  ·simp_all
  ·refine List.mem_append_right _ ?_
   split at h
   ·rename_i ha
    rw[if_pos ha];rcases List.mem_append.1 h with h|h
    ·grind
    ·refine List.mem_append_right _ (ft.2 ?_)
     obtain rfl:=List.mem_singleton.1 h;obtain⟨k,h1,h2,h3⟩:=nr (cs:=c) (at':=a) (min (p.length-a) 1749) byO;exact⟨k,h1,byO,byO,h3⟩
   ·cases h
 simp_all
theorem nu{c:List Nat}{a:Nat}:∀{n k:Nat},1<=k->k<=n->bP c (iA c a n)<=bP c (dC a k)
 | 0,k,h1,h2=>by omega
 | n+1,k,h1,h2=>by
  rw[iA];split
  ·grind
  ·split
   ·by_cases hk:k=n+1
    ·simp_all
    ·have:=nu (c:=c) (a:=a) (n:=n) h1 byO;omega
   ·by_cases hk:k=n+1
    ·simp_all
    ·exact nu h1 byO
theorem DS(c:List Nat){a st:Nat}{o:Opt}(h:o ∈ iI p a st):∃o' ∈ dQ p c a st,bP c o'<=bP c o:=by
 unfold iI at h;unfold dQ;split at h
 ·rename_i hs
  rw[if_pos hs];unfold qy;rcases List.mem_append.1 h with h|h
  ·grind
  ·split at h
   ·rename_i ha
    rw[if_pos ha];rcases List.mem_append.1 h with h|h
    ·grind
    ·obtain⟨n,h1,h2,h3,rfl⟩:=ft.1 h
     exact⟨vH p c a,List.mem_append_right _ (by simp),nu h1 byO⟩
   ·cases h
 grind
theorem oY{a st:Nat}(ha:a<=p.length):∀o ∈ iI p a st,o.ok p.length a:=by
 intro o ho;by_cases hs:st=0
 ·unfold iI ji at ho
  rw[if_pos hs]at ho;rcases List.mem_append.1 ho with h|h
  ·grind[Bd]
  ·split at h
   ·rcases List.mem_append.1 h with h|h
    ·have:o ∈ dQ p [] a 0:=by grind[dQ,qy]
     grind[iY]
    grind[ft,vG]
   ·cases h
 ·have:o ∈ dQ p [] a st:=by
   grind[iI,dQ]
  grind[iY]
inductive Pth (p:List UInt8):Nat->Nat->Nat->Prop
 | nil:Pth p p.length 0 0
 | cons {a st m:Nat} {o:Opt}:a<=p.length->st<19->o ∈ iI p a st->Pth p o.nx o.md m->Pth p a st (o.sz+o.run+m)
theorem BG{c:List Nat}(hs:Sol p c){a st m:Nat}(h:Pth p a st m):cst c a st<=m:=by
 induction h with
 | nil=>
  have:=(hs.row p.length (Nat.le_refl _)).fin rfl
  simp_all
 | @cons a st m o ha hst ho _ ih=>
  obtain⟨o',ho',ht⟩:=DS c ho;have h1:=(hs.row a ha).fix st hst o' ho'
  grind[bP]
theorem Ck{c:List Nat}(hs:Sol p c):∀(k:Nat) {a st:Nat},a<=p.length->st<19->cst c a st=k->k<1073741824->Pth p a st k:=by
 intro k
 induction k using Nat.strongRecOn with
 | ind k ih=>
  intro a st ha hst hc hk;by_cases hn:st=0/\a=p.length
  ·obtain⟨rfl,rfl⟩:=hn
   have:=(hs.row p.length (Nat.le_refl _)).fin rfl;have h0:cst c p.length 0=0:=byO;rw[h0]at hc;subst hc;exact .nil
  ·obtain⟨o,ho,ht⟩:=CL hs ha hst byO hn
   have hok:=iY ha o ho;have h2:bP c o=o.sz+o.run+cst c o.nx o.md:=rfl;have hsz:=hok.sz;have:=Pth.cons ha hst (yX ho) (ih (cst c o.nx o.md) byO hok.nx.2 hok.md rfl byO)
   simp_all
set_option maxRecDepth 100000
theorem plT:(List.range 4).all (fun s=>(List.range 40).all fun v=>[false,true].all fun b=>(fi b s v==128) || (c9 b (fi b s v)==(s,v)))=true:=by kernel_rfl
theorem D0{b:Bool}{s v:Nat}(hs:s<4)(hv:v<40)(h:fi b s v≠128):c9 b (fi b s v)=(s,v):=by
 have:=List.all_eq_true.1 (List.all_eq_true.1 (List.all_eq_true.1 plT s (List.mem_range.2 hs)) v (List.mem_range.2 hv)) b (by cases b<;>simp);simpa[h]using this
theorem xcT:(List.range 40).all (fun v=>dL (lz v)==v+1)=true:=by kernel_rfl
theorem wy{v:Nat}(hv:v<40):dL (lz v)=v+1:=by
 simpa using List.all_eq_true.1 xcT v (List.mem_range.2 hv)
theorem IJ{b:Bool}{s k:Nat}(hk:k<40)(h:fi b s k≠128):fi b s k<128:=by
 unfold fi at h ⊢;repeat' split at h
 all_goals (repeat' split)
 all_goals first|omega|(exfalso;omega)|skip
 all_goals (exact absurd rfl h)
def stV(first s:Nat)(up:Bool):Nat:=iM first ⟨0,0,s,up⟩
def It(first:Nat)(lower:Bool):Prop:=(first=1/\lower=false)\/(first=9/\lower=true)
theorem PD{first:Nat}{lower:Bool}(h:It first lower){s:Nat}{up:Bool}(hs:s<4){a:Nat}:iI p a (stV first s up)=eu a::wq p first lower (jH p a s up lower)/\stV first s up<19:=by
 have hx:∃x,x<8/\stV first s up=first+x/\x%4=s/\decide (4<=x)=up:=by
  cases up with
  | true=>exact⟨s+4,byO,by unfold stV iM;simp;omega,byO,by simp⟩
  | false=>exact⟨s,byO,by unfold stV iM;simp,byO,by simp;omega⟩
 obtain⟨x,hx1,hx2,hx3,hx4⟩:=hx;rw[hx2];rcases h with ⟨rfl,rfl⟩|⟨rfl,rfl⟩
 ·refine⟨?_,byO⟩
  unfold iI;rw[if_neg byO,if_pos byO,show 1+x-1=x by omega];unfold kJ;rw[hx3,hx4]
 ·refine⟨?_,byO⟩
  unfold iI;rw[if_neg byO,if_neg byO,if_pos byO,show 9+x-9=x by omega];unfold kJ;rw[hx3,hx4]
end Go.Proofs.YtmnlgdpdgjbfgaaGreat
