/- Lemmas. -/
import Derived.Test.YtmnlgdpdgjbfgaaGreatL29
set_option linter.all false
namespace Go.Proofs.YtmnlgdpdgjbfgaaGreat
open Go.Abs
variable{p:List UInt8}{n:Nat}
set_option maxRecDepth 100000
def Pre(o p:List UInt8):Prop:=∃r,p=o++r
theorem Pre.refl(o:List UInt8):Pre o o:=⟨[],by simp⟩
theorem Pre.trans{a b c:List UInt8}(h:Pre a b)(k:Pre b c):Pre a c:=by
 obtain⟨r,rfl⟩:=h;obtain⟨s,rfl⟩:=k;exact⟨r++s,by simp⟩
theorem Pre.app(o l:List UInt8):Pre o (o++l):=⟨l,rfl⟩
theorem Pre.len{o p:List UInt8}(h:Pre o p):o.length<=p.length:=by obtain⟨r,rfl⟩:=h;simp
theorem Pre.by{o p:List UInt8}(h:Pre o p){i:Nat}(hi:i<o.length):by' p i=by' o i:=by
 obtain⟨r,rfl⟩:=h;exact GI hi
theorem GJ{o:List UInt8}(hn:n<256):by' (o++[UInt8.ofNat n]) o.length=n:=by
 unfold by';simp[au₀,UInt8.toNat_ofNat_of_lt' (show n<UInt8.size from hn)]
theorem Pre.at{o p:List UInt8}{n:Nat}(h:Pre (o++[UInt8.ofNat n]) p)(hn:n<256):by' p o.length=n/\o.length<p.length:=by
 have hl:=h.len;rw[as₀,List.length_singleton]at hl;exact⟨by rw[h.by (by simp),GJ hn],byO⟩
theorem plT:(List.range 4).all (fun s=>(List.range 40).all fun v=>[false,true].all fun b=>(fG b s v==128) || (cQ b (fG b s v)==(s,v)))=true:=by kernel_rfl
theorem Bu{b:Bool}{s v:Nat}(hs:s<4)(hv:v<40)(h:fG b s v≠128):cQ b (fG b s v)=(s,v):=by
 have:=List.all_eq_true.1 (List.all_eq_true.1 (List.all_eq_true.1 plT s (List.mem_range.2 hs)) v (List.mem_range.2 hv)) b (by cases b<;>simp);simpa[h]using this
theorem xcT:(List.range 40).all (fun v=>dE (lL v)==v+1)=true:=by kernel_rfl
theorem vW{v:Nat}(hv:v<40):dE (lL v)=v+1:=by
 simpa using List.all_eq_true.1 xcT v (List.mem_range.2 hv)
theorem GO{b:Bool}{s k:Nat}(hk:k<40)(h:fG b s k≠128):fG b s k<128:=by
 unfold fG at h ⊢;repeat' split at h
 all_goals (repeat' split)
 all_goals first|omega|(exfalso;omega)|skip
 all_goals (exact absurd rfl h)
set_option maxRecDepth 20000
def stV(first s:Nat)(up:Bool):Nat:=gX first ⟨0,0,s,up⟩
def HC(first:Nat)(lower:Bool):Prop:=(first=1/\lower=false)\/(first=9/\lower=true)
theorem NA{first:Nat}{lower:Bool}(h:HC first lower){s:Nat}{up:Bool}(hs:s<4){a:Nat}:gT p a (stV first s up)=eR a::sf p first lower (iX p a s up lower)/\stV first s up<19:=by
 have hx:∃x,x<8/\stV first s up=first+x/\x%4=s/\decide (4<=x)=up:=by
  cases up with
  | true=>exact⟨s+4,byO,by unfold stV gX;simp;omega,byO,by simp⟩
  | false=>exact⟨s,byO,by unfold stV gX;simp,byO,by simp;omega⟩
 obtain⟨x,hx1,hx2,hx3,hx4⟩:=hx;rw[hx2];rcases h with ⟨rfl,rfl⟩|⟨rfl,rfl⟩
 ·refine⟨?_,byO⟩
  unfold gT;rw[if_neg byO,if_pos byO,show 1+x-1=x by omega];unfold im;rw[hx3,hx4]
 ·refine⟨?_,byO⟩
  unfold gT;rw[if_neg byO,if_neg byO,if_pos byO,show 9+x-9=x by omega];unfold im;rw[hx3,hx4]
section
variable {ws:List Nat}{p:List UInt8}{m:Nat}
end
section
variable {ws:List Nat}{p:List UInt8}{m:Nat}
theorem Ht{a n:Nat}(h1:1<=n)(h2:n<=1749)(h3:a+n<=p.length):cW a n ∈ gT p a 0:=by
 unfold gT jP;rw[if_pos rfl,if_pos byO];exact List.mem_append_right _ (List.mem_append_right _ (fK.2 ⟨n,h1,h2,h3,rfl⟩))
end
theorem xO{a n:Nat}(h:a+n<=p.length):(pa p a n).length=n:=by unfold pa;simp;omega
theorem DS{k a:Nat}{o:Opt}(hz:1<=o.sz/\o.sz<=3)(h:a+o.run<=p.length):(emit p k a o).length=o.sz+o.run:=by
 unfold emit;split
 ·rw[oZ hz.2];omega
 ·rw[ak₀,mn,as₀,List.length_drop,oZ hz.2,xO h];omega
theorem Ao{p:List UInt8}{c:List Nat}(hs:Sol p c):∀(f a st:Nat) (W:List Nat),a<=p.length->st<19->cst c a st<1073741824->cst c a st<f->(pD p c f a st W).length=W.length+cst c a st
 | 0,a,st,W,ha,hst,hc,hf=>by omega
 | f+1,a,st,W,ha,hst,hc,hf=>by
  rw[pD];split
  ·rename_i hfin
   obtain⟨rfl,rfl⟩:=hfin;have:=(hs.row p.length (Nat.le_refl _)).fin rfl;have h0:cst c p.length 0=0:=by show c.getD (p.length*19+0) 0=0;rw[Nat.add_zero];exact this
   omega
  ·rename_i hfin
   obtain⟨hm,ht⟩:=xm hs ha hst hc hfin;have hok:=iA ha _ hm;have hr:a+(chs p c a st).run<=p.length:=by
    rcases wu _ hm with h|h
    ·omega
    ·have:=hok.nx.2;omega
   have e:bD c (chs p c a st)=(chs p c a st).sz+(chs p c a st).run+cst c (chs p c a st).nx (chs p c a st).md:=rfl;have hz:=hok.sz;rw[Ao hs f _ _ _ hok.nx.2 hok.md byO byO,as₀,DS hz hr];omega
theorem G9{c:List Nat}(hs:Sol p c)(hp:p.length<=4096):(kc p c).length=cst c 0 0:=by
 have:=km hs p.length 0 byO;unfold kc;rw[Ao hs _ _ _ _ (Nat.zero_le _) byO byO byO];simp
set_option maxRecDepth 100000
def AtW(ws W E:List Nat):Prop:=∃r,ws=W++E++r
theorem AtW.wd{ws W E:List Nat}(h:AtW ws W E){i:Nat}(hi:i<E.length):wd ws (W.length+i)=E.getD i 0:=by
 obtain⟨r,rfl⟩:=h;unfold Go.Proofs.YtmnlgdpdgjbfgaaGreat.wd;rw[ba₀,au₀,aw₀ byO,Nat.add_sub_cancel_left,ax₀ hi,<-au₀]
theorem AtW.len{ws W E:List Nat}(h:AtW ws W E):W.length+E.length<=ws.length:=by
 obtain⟨r,rfl⟩:=h;simp
theorem cpT:(List.range 128).all (fun n=>[false,true].all fun b=>(fG b (cQ b n).1 (cQ b n).2==n)&&((cQ b n).1 != 0 || decide (3<=(cQ b n).2))&&((cQ b n).1 != 2 || (cQ b n).2 != 30))=true:=by kernel_rfl
theorem BE{b:Bool}(h:n<128):fG b (cQ b n).1 (cQ b n).2=n/\((cQ b n).1=0->3<=(cQ b n).2)/\((cQ b n).1=2->(cQ b n).2≠30):=by
 have:=List.all_eq_true.1 (List.all_eq_true.1 cpT n (List.mem_range.2 h)) b (by cases b<;>simp);simp only[ac₀,ar₀,beq_iff_eq,bne_iff_ne,af₀]at this;refine⟨this.1.1,fun e=>?_,fun e=>?_⟩
 ·rcases this.1.2 with h|h
  ·exact absurd e h
  ·exact h
 ·rcases this.2 with h|h
  ·exact absurd e h
  ·exact h
theorem xpT:(List.range 256).all (fun n=>dE n==0 || lL (dE n-1)==n)=true:=by kernel_rfl
theorem sQ(h:n<256)(h0:dE n≠0):lL (dE n-1)=n:=by
 have:=List.all_eq_true.1 xpT n (List.mem_range.2 h);simpa[h0]using this
def gA(p:List UInt8)(a:Nat):Nat->Nat
 | 0=>0
 | i+1=>64*gA p a i+by' p (a+i)%64
def okC(p:List UInt8)(a j:Nat):Prop:=a+j<p.length/\32<=by' p (a+j)/\by' p (a+j)<=94
theorem zg{p:List UInt8}{a:Nat}:∀(k n:Nat) {o:Opt},n+k=4->o ∈ gg p a k n (gA p a n)->(∃i,n<=i/\i<4/\(∀j,n<=j->j<i->okC p a j)/\o=fF (64*gA p a i+31) (i+1) (a+i) 0)\/((∀j,n<=j->j<4->okC p a j)/\o=fF (gA p a 4) 4 (a+4) 18)
 | 0,n,o,h,ho=>by
  have:n=4:=byO;subst this;simp only[gg]at ho;exact .inr ⟨fun j h1 h2=>byO,List.mem_singleton.1 ho⟩
 | k+1,n,o,h,ho=>by
  simp only[gg]at ho;rcases List.mem_cons.1 ho with rfl|ho
  ·exact .inl ⟨n,Nat.le_refl _,byO,fun j h1 h2=>byO,rfl⟩
  ·split at ho
   ·rename_i hc
    rcases zg k (n+1) byO ho with ⟨i,h1,h2,h3,h4⟩|⟨h3,h4⟩
    ·refine .inl ⟨i,byO,h2,fun j hj1 hj2=>?_,h4⟩
     by_cases e:j=n
     ·subst e;exact hc
     ·exact h3 j byO hj2
    ·refine .inr ⟨fun j hj1 hj2=>?_,h4⟩
     by_cases e:j=n
     ·subst e;exact hc
     ·exact h3 j byO hj2
   ·cases ho
section
variable {ws:List Nat}{a0 j:Nat}
end
end Go.Proofs.YtmnlgdpdgjbfgaaGreat
