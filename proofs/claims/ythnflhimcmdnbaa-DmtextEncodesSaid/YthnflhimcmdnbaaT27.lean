/- Dmtext: what is read is a way of at most as many codewords. Dmtext: a way for what is read: C40, Text, X12, EDIFACT. Dmtext: a way for what is read: EDIFACT, Base 256, ASCII, all. Dmtext: the number of codewords. Dmtext: the law Minimal. -/
import Derived.Test.YthnflhimcmdnbaaT21
import Derived.Test.YthnflhimcmdnbaaT25
set_option linter.unusedVariables false
set_option linter.unusedSimpArgs false
set_option linter.unusedSectionVars false
namespace Go.Proofs.Ythnflhimcmdnbaa
open Go.Abs
set_option linter.unusedSimpArgs false
set_option linter.unusedVariables false
set_option maxRecDepth 100000
def Pre(o p:List UInt8):Prop:=∃r,p=o++r
theorem Pre.refl(o:List UInt8):Pre o o:=⟨[],by simp⟩
theorem Pre.trans{a b c:List UInt8}(h:Pre a b)(k:Pre b c):Pre a c:=by
 obtain⟨r,rfl⟩:=h
 obtain⟨s,rfl⟩:=k
 exact⟨r++s,by simp⟩
theorem Pre.app(o l:List UInt8):Pre o (o++l):=⟨l,rfl⟩
theorem Pre.len{o p:List UInt8}(h:Pre o p):o.length≤p.length:=by obtain⟨r,rfl⟩:=h;simp
theorem Pre.by{o p:List UInt8}(h:Pre o p){i:Nat}(hi:i<o.length):by' p i=by' o i:=by
 obtain⟨r,rfl⟩:=h;exact by_app1 hi
theorem by_snoc{o:List UInt8}{n:Nat}(hn:n<256):by' (o++[UInt8.ofNat n]) o.length=n:=by
 unfold by'
 simp[List.getD_eq_getElem?_getD,UInt8.toNat_ofNat_of_lt' (show n<UInt8.size from hn)]
theorem Pre.at{o p:List UInt8}{n:Nat}(h:Pre (o++[UInt8.ofNat n]) p)(hn:n<256):by' p o.length=n∧o.length<p.length:=by
 have hl:=h.len
 rw[List.length_append,List.length_singleton]at hl
 exact⟨by rw[h.by (by simp),by_snoc hn],by omega⟩
theorem plT:(List.range 4).all (fun s=>(List.range 40).all fun v=>[false,true].all fun b=>(chrS b s v==128) || (placeS b (chrS b s v)==(s,v)))=true:=by kernel_rfl
theorem place_chr{b:Bool}{s v:Nat}(hs:s<4)(hv:v<40)(h:chrS b s v≠128):placeS b (chrS b s v)=(s,v):=by
 have:=List.all_eq_true.1 (List.all_eq_true.1 (List.all_eq_true.1 plT s (List.mem_range.2 hs)) v (List.mem_range.2 hv)) b (by cases b<;>simp)
 simpa[h]using this
theorem xcT:(List.range 40).all (fun v=>x12S (xchr v)==v+1)=true:=by kernel_rfl
theorem x12_chr{v:Nat}(hv:v<40):x12S (xchr v)=v+1:=by
 simpa using List.all_eq_true.1 xcT v (List.mem_range.2 hv)
theorem xchr_lt{v:Nat}(hv:v<40):xchr v<128:=by
 unfold xchr
 repeat' split
 all_goals omega
theorem chrS_lt{b:Bool}{s k:Nat}(hk:k<40)(h:chrS b s k≠128):chrS b s k<128:=by
 unfold chrS at h ⊢
 repeat' split at h
 all_goals (repeat' split)
 all_goals first|omega|(exfalso;omega)|skip
 all_goals (exact absurd rfl h)
theorem val_mov{lower:Bool}{s t:Nat×Bool×List UInt8}{v:Nat}{p:List UInt8}(hs:s.1<4)(hv:v<40)(h:valS lower s v=.inr t)(hp:Pre t.2.2 p):Pre s.2.2 t.2.2∧t.1<4∧(⟨v,t.2.2.length,t.1,t.2.1⟩:Mv) ∈ movS p s.2.2.length s.1 s.2.1 lower:=by
 obtain⟨set,up,o⟩:=s
 simp only at hs ⊢
 unfold valS at h
 simp only at h
 unfold movS
 rw[List.mem_append,List.mem_append]
 split at h
 ·rename_i hc
  cases h
  refine⟨Pre.refl _,by simp only;omega,.inl (.inl ?_)⟩
  unfold mvA mv3
  rw[if_pos hc.1]
  exact List.mem_map.2 ⟨v,List.mem_range.2 (by omega),rfl⟩
 ·split at h
  ·rename_i hc
   cases h
   refine⟨Pre.refl _,by simp only;omega,.inr ?_⟩
   unfold mvD
   rw[if_pos ⟨hc.1,hc.2.2⟩]
   simp only[hc.2.1,List.mem_singleton]
  ·split at h
   ·cases h
   ·rename_i hc
    have hlt:=chrS_lt hv hc
    have hpl:=place_chr hs hv hc
    cases h
    refine⟨Pre.app _ _,by simp,.inl (.inr ?_)⟩
    simp only at hp ⊢
    unfold mvB
    cases up with
    | true=>
     simp only[if_true]at hp ⊢
     obtain⟨h1,h2⟩:=hp.at (by omega)
     rw[h1,show(chrS lower set v+128)%128=chrS lower set v by omega,hpl,if_pos ⟨h2,rfl,by simp⟩]
     simp
    | false=>
     simp only[Bool.false_eq_true,if_false]at hp ⊢
     obtain⟨h1,h2⟩:=hp.at (by omega)
     rw[h1,show chrS lower set v%128=chrS lower set v by omega,hpl,if_pos ⟨h2,rfl,by simp;omega⟩]
     simp
end Go.Proofs.Ythnflhimcmdnbaa
namespace Go.Proofs.Ythnflhimcmdnbaa
open Go.Abs
set_option linter.unusedSimpArgs false
set_option linter.unusedVariables false
set_option maxRecDepth 20000
def stV(first s:Nat)(up:Bool):Nat:=modeS first ⟨0,0,s,up⟩
def isCT(first:Nat)(lower:Bool):Prop:=(first=1∧lower=false)∨(first=9∧lower=true)
theorem opt_ct{first:Nat}{lower:Bool}(h:isCT first lower){s:Nat}{up:Bool}(hs:s<4){p:List UInt8}{a:Nat}:optA p a (stV first s up)=latO a::tri1 p first lower (movS p a s up lower)∧stV first s up<19:=by
 have hx:∃x,x<8∧stV first s up=first+x∧x%4=s∧decide (4≤x)=up:=by
  cases up with
  | true=>exact⟨s+4,by omega,by unfold stV modeS;simp;omega,by omega,by simp⟩
  | false=>exact⟨s,by omega,by unfold stV modeS;simp,by omega,by simp;omega⟩
 obtain⟨x,hx1,hx2,hx3,hx4⟩:=hx
 rw[hx2]
 rcases h with ⟨rfl,rfl⟩|⟨rfl,rfl⟩
 ·refine⟨?_,by omega⟩
  unfold optA
  rw[if_neg (by omega),if_pos (by omega),show 1+x-1=x by omega]
  unfold tripS
  rw[hx3,hx4]
 ·refine⟨?_,by omega⟩
  unfold optA
  rw[if_neg (by omega),if_neg (by omega),if_pos (by omega),show 9+x-9=x by omega]
  unfold tripS
  rw[hx3,hx4]
section
variable {ws:List Nat}{p:List UInt8}{m:Nat}
theorem tri_small{a:Nat}{u:Nat×Nat×Nat}(h:triS ws a=.inr (some u)):a+1<ws.length∧u.1<40∧u.2.1<40∧u.2.2<40:=by
 obtain⟨h1,_,h3,h4,rfl⟩:=triS_some h
 simp only
 omega
theorem valS_set{lower:Bool}{s t:Nat×Bool×List UInt8}{v:Nat}(h:valS lower s v=.inr t):t.1<4:=by
 unfold valS at h
 split at h
 ·cases h
  simp only
  omega
 ·split at h
  ·cases h
   simp
  ·split at h
   ·cases h
   ·cases h
    simp
theorem pth_vals{first:Nat}{lower:Bool}(hct:isCT first lower):∀(f a:Nat) (s:Nat×Bool×List UInt8) {a':Nat} {o':List UInt8},valsS ws lower f a s=.inr (a',o')→s.1<4→Pre o' p→Pth p o'.length 0 m→Pre s.2.2 o'∧∃k,k≤a'-a∧Pth p s.2.2.length (stV first s.1 s.2.1) (k+m)
 | 0,a,s,a',o',h,hs,hp,hm=>by cases h
 | f+1,a,s,a',o',h,hs,hp,hm=>by
  have hlen:=valsS_len _ _ _ h
  simp only[valsS]at h
  cases ht:triS ws a with
  | inl e=>rw[ht]at h;cases h
  | inr t=>
   rw[ht]at h
   cases t with
   | none=>
    have h:Sum.inr (a+1,s.2.2)=(Sum.inr (a',o'):Rd):=h
    cases h
    obtain⟨h1,h2⟩:=opt_ct hct (up:=s.2.1) hs (p:=p) (a:=s.2.2.length)
    refine⟨Pre.refl _,1,by omega,?_⟩
    exact Pth.cons (o:=latO s.2.2.length) hp.len h2 (by rw[h1];simp) hm
   | some u=>
    obtain⟨ha,hu1,hu2,hu3⟩:=tri_small ht
    simp only at h
    cases hv:val3 lower s u with
    | inl e=>rw[hv]at h;cases h
    | inr s3=>
     rw[hv]at h
     simp only at h
     obtain⟨s1,s2,e1,e2,e3⟩:=val3_some hv
     have hs1:=valS_set e1
     have hs2:=valS_set e2
     have hs3:=valS_set e3
     obtain⟨hp3,k,hk,hpath⟩:=pth_vals hct f (a+2) s3 h hs3 hp hm
     have hl3:=valsS_len _ _ _ h
     have hq3:=hp3.trans hp
     obtain⟨c3,_,m3⟩:=val_mov hs2 hu3 e3 hq3
     have hq2:=c3.trans hq3
     obtain⟨c2,_,m2⟩:=val_mov hs1 hu2 e2 hq2
     have hq1:=c2.trans hq2
     obtain⟨c1,_,m1⟩:=val_mov hs hu1 e1 hq1
     obtain⟨h1,h2⟩:=opt_ct hct (up:=s.2.1) hs (p:=p) (a:=s.2.2.length)
     refine⟨c1.trans (c2.trans (c3.trans hp3)),2+k,by omega,?_⟩
     have hmem:triO u.1 u.2.1 u.2.2 s3.2.2.length (stV first s3.1 s3.2.1) ∈ optA p s.2.2.length (stV first s.1 s.2.1):=by
      rw[h1]
      refine List.mem_cons.2 (.inr ?_)
      unfold tri1 tri2 tri3
      exact List.mem_flatMap.2 ⟨_,m1,List.mem_flatMap.2 ⟨_,m2,List.mem_map.2 ⟨_,m3,rfl⟩⟩⟩
     have:=Pth.cons ((c1.trans hq1).len) h2 hmem hpath
     rw[Nat.add_assoc]
     exact this
theorem opt_x12{a:Nat}:optA p a 17=x12O p a:=rfl
theorem pth_x12:∀(f a:Nat) (o:List UInt8) {a':Nat} {o':List UInt8},x12S' ws f a o=.inr (a',o')→Pre o' p→Pth p o'.length 0 m→Pre o o'∧∃k,k≤a'-a∧Pth p o.length 17 (k+m)
 | 0,a,o,a',o',h,hp,hm=>by cases h
 | f+1,a,o,a',o',h,hp,hm=>by
  have hlen:=x12S'_len _ _ _ h
  simp only[x12S']at h
  cases ht:triS ws a with
  | inl e=>rw[ht]at h;cases h
  | inr t=>
   rw[ht]at h
   cases t with
   | none=>
    have h:Sum.inr (a+1,o)=(Sum.inr (a',o'):Rd):=h
    cases h
    refine⟨Pre.refl _,1,by omega,?_⟩
    exact Pth.cons (o:=latO o.length) hp.len (by omega) (by rw[opt_x12];unfold x12O;simp) hm
   | some u=>
    obtain⟨ha,hu1,hu2,hu3⟩:=tri_small ht
    simp only at h
    obtain⟨hp3,k,hk,hpath⟩:=pth_x12 f (a+2) _ h hp hm
    have hl3:=x12S'_len _ _ _ h
    have hq:=hp3.trans hp
    have e:o++[UInt8.ofNat (xchr u.1),UInt8.ofNat (xchr u.2.1),UInt8.ofNat (xchr u.2.2)]=((o++[UInt8.ofNat (xchr u.1)])++[UInt8.ofNat (xchr u.2.1)])++[UInt8.ofNat (xchr u.2.2)]:=by simp
    have x1:=xchr_lt hu1
    have x2:=xchr_lt hu2
    have x3:=xchr_lt hu3
    rw[e]at hq
    obtain⟨b3,l3⟩:=hq.at (by omega)
    obtain⟨b2,l2⟩:=((Pre.app _ _).trans hq).at (by omega)
    obtain⟨b1,l1⟩:=((Pre.app _ _).trans ((Pre.app _ _).trans hq)).at (by omega)
    simp only[List.length_append,List.length_singleton]at b3 l3 b2 l2
    refine⟨(Pre.app _ _).trans hp3,2+k,by omega,?_⟩
    have hmem:triO u.1 u.2.1 u.2.2 (o.length+3) 17 ∈ optA p o.length 17:=by
     rw[opt_x12]
     unfold x12O
     rw[b1,b2,b3,x12_chr hu1,x12_chr hu2,x12_chr hu3,if_pos ⟨by omega,by omega,by omega,by omega⟩]
     simp
    have hpl:Pth p (o.length+3) 17 (k+m):=by simpa using hpath
    have:=Pth.cons (by omega) (by omega) hmem hpl
    rw[Nat.add_assoc]
    exact this
end
end Go.Proofs.Ythnflhimcmdnbaa
namespace Go.Proofs.Ythnflhimcmdnbaa
open Go.Abs
set_option linter.unusedSimpArgs false
set_option linter.unusedVariables false
set_option maxRecDepth 20000
def Edi(p:List UInt8)(a n:Nat):Prop:=∀i,i<n→a+i<p.length∧32≤by' p (a+i)∧by' p (a+i)≤94
theorem edi_end{p:List UInt8}{a:Nat}:∀(k n g i:Nat),n+k=4→n≤i→i<4→(∀j,n≤j→j<i→a+j<p.length∧32≤by' p (a+j)∧by' p (a+j)≤94)→∃o ∈ ediR p a k n g,o.sz=(6*(i+1)+7)/8∧o.run=0∧o.nx=a+i∧o.md=0
 | 0,n,g,i,h,h1,h2,_=>by omega
 | k+1,n,g,i,h,h1,h2,hc=>by
  simp only[ediR]
  by_cases e:i=n
  ·subst e
   exact⟨_,List.mem_cons.2 (.inl rfl),rfl,rfl,rfl,rfl⟩
  ·rw[if_pos (hc n (Nat.le_refl _) (by omega))]
   obtain⟨o,ho,h3⟩:=edi_end k (n+1) (64*g+by' p (a+n)%64) i (by omega) (by omega) h2 (fun j hj1 hj2=>hc j (by omega) hj2)
   exact⟨o,List.mem_cons.2 (.inr ho),h3⟩
theorem edi_all{p:List UInt8}{a:Nat}:∀(k n g:Nat),n+k=4→(∀j,n≤j→j<4→a+j<p.length∧32≤by' p (a+j)∧by' p (a+j)≤94)→∃o ∈ ediR p a k n g,o.sz=3∧o.run=0∧o.nx=a+4∧o.md=18
 | 0,n,g,h,_=>by
  have:n=4:=by omega
  subst this
  exact⟨_,by simp only[ediR];exact List.mem_singleton.2 rfl,rfl,rfl,rfl,rfl⟩
 | k+1,n,g,h,hc=>by
  simp only[ediR]
  rw[if_pos (hc n (Nat.le_refl _) (by omega))]
  obtain⟨o,ho,h3⟩:=edi_all k (n+1) (64*g+by' p (a+n)%64) (by omega) (fun j hj1 hj2=>hc j (by omega) hj2)
  exact⟨o,List.mem_cons.2 (.inr ho),h3⟩
theorem opt_edi{p:List UInt8}{a:Nat}:optA p a 18=ediS p a:=rfl
section
variable {ws:List Nat}{p:List UInt8}{m:Nat}
theorem six_lt(ws:List Nat)(a bit:Nat):sixS ws a bit<64:=Nat.mod_lt _ (by decide)
theorem pth_edi{a:Nat}:∀(f j i:Nat) (o:List UInt8) {base a':Nat} {o':List UInt8},ediD ws a f (24*j+6*i) o=.inr (a',o')→i<4→o.length=base+i→Edi o base i→Pre o' p→Pth p o'.length 0 m→Pre o o'∧∃k,3*j+k≤a'-a∧Pth p base 18 (k+m)
 | 0,j,i,o,base,a',o',h,hi,hb,he,hp,hm=>by cases h
 | f+1,j,i,o,base,a',o',h,hi,hb,he,hp,hm=>by
  have hlen:=ediD_len _ _ _ h
  simp only[ediD]at h
  split at h
  ·cases h
  ·rename_i hla
   split at h
   ·split at h
    ·cases h
    ·have h:Sum.inr (a+(24*j+6*i+5)/8+1,o)=(Sum.inr (a',o'):Rd):=h
     cases h
     obtain⟨q,hq,h1,h2,h3,h4⟩:=edi_end (p:=p) (a:=base) 4 0 0 i rfl (Nat.zero_le _) hi (fun t _ ht=>by
      obtain⟨e1,e2,e3⟩:=he t ht
      have hpl:=hp.len
      rw[hp.by e1]
      exact⟨by omega,e2,e3⟩)
     refine⟨Pre.refl _,q.sz,by omega,?_⟩
     have:=Pth.cons (o:=q) (p:=p) (a:=base) (st:=18) (m:=m) (by have:=hp.len;omega) (by omega) (by rw[opt_edi];exact hq) (by rw[h3,h4,←hb];exact hm)
     rw[h2,Nat.add_zero]at this
     exact this
   ·rename_i hv
    have h6:=six_lt ws a (24*j+6*i)
    generalize hx:sixS ws a (24*j+6*i)=x at h hv h6
    have hy:32≤(if x<32 then x+64 else x)∧(if x<32 then x+64 else x)≤94:=by split<;>omega
    generalize (if x<32 then x+64 else x)=y at h hy
    have hl3:=ediD_len _ _ _ h
    by_cases h3:i=3
    ·subst h3
     rw[show 24*j+6*3+6=24*(j+1)+6*0 by omega]at h
     obtain⟨hp3,k,hk,hpath⟩:=pth_edi f (j+1) 0 _ (base:=base+4) h (by omega) (by simp;omega) (fun t ht=>absurd ht (by omega)) hp hm
     have hq:=hp3.trans hp
     obtain⟨b1,l1⟩:=hq.at (by omega)
     refine⟨(Pre.app _ _).trans hp3,3+k,by omega,?_⟩
     have hqo:=(Pre.app o [UInt8.ofNat y]).trans hq
     obtain⟨q,hqm,h1,h2,h4,h5⟩:=edi_all (p:=p) (a:=base) 4 0 0 rfl (fun t _ ht=>by
      by_cases e:t=3
      ·subst e
       rw[←hb,b1]
       exact⟨by omega,hy.1,hy.2⟩
      ·obtain⟨e1,e2,e3⟩:=he t (by omega)
       rw[hqo.by e1]
       exact⟨by omega,e2,e3⟩)
     have:=Pth.cons (o:=q) (p:=p) (a:=base) (st:=18) (m:=k+m) (by omega) (by omega) (by rw[opt_edi];exact hqm) (by rw[h4,h5];exact hpath)
     rw[h1,h2,Nat.add_zero]at this
     rw[Nat.add_assoc]
     exact this
    ·rw[show 24*j+6*i+6=24*j+6*(i+1) by omega]at h
     have hed:Edi (o++[UInt8.ofNat y]) base (i+1):=by
      intro t ht
      by_cases e:t=i
      ·subst e
       rw[←hb,by_snoc (by omega)]
       exact⟨by simp,hy.1,hy.2⟩
      ·obtain⟨e1,e2,e3⟩:=he t (by omega)
       rw[by_app1 e1]
       exact⟨by simp;omega,e2,e3⟩
     obtain⟨hp3,k,hk,hpath⟩:=pth_edi f j (i+1) _ (base:=base) h (by omega) (by simp;omega) hed hp hm
     exact⟨(Pre.app _ _).trans hp3,k,hk,hpath⟩
theorem run_pre:∀(n a:Nat) (o:List UInt8) {a':Nat} {o':List UInt8},runS ws n a o=.inr (a',o')→Pre o o'
 | 0,a,o,a',o',h=>by cases h;exact Pre.refl _
 | n+1,a,o,a',o',h=>by
  simp only[runS]at h
  split at h
  ·cases h
  ·exact(Pre.app _ _).trans (run_pre n (a+1) _ h)
theorem opt_bin{a n:Nat}(h1:1≤n)(h2:n≤1749)(h3:a+n≤p.length):binO a n ∈ optA p a 0:=by
 unfold optA ascA
 rw[if_pos rfl,if_pos (by omega)]
 exact List.mem_append_right _ (List.mem_append_right _ (binA_mem.2 ⟨n,h1,h2,h3,rfl⟩))
theorem unm_lt'(ws:List Nat)(a:Nat):unm ws a<256:=Nat.mod_lt _ (by decide)
theorem pth_bin{a:Nat}{o:List UInt8}{a':Nat}{o':List UInt8}(h:binD ws a o=.inr (a',o'))(hp:Pre o' p)(hm:Pth p o'.length 0 m):Pre o o'∧∃k,k≤a'-a+1∧Pth p o.length 0 (k+m):=by
 have hlen:=binD_len h
 unfold binD at h
 split at h
 ·cases h
 ·split at h
  ·cases h
  ·split at h
   ·rename_i h0 h250
    have hr:=runS_len _ _ _ (by omega) h
    have hpre:=run_pre _ _ _ h
    have hpl:=hp.len
    refine⟨hpre,2+unm ws a,by omega,?_⟩
    have e:binO o.length (unm ws a)=⟨231,unm ws a,0,2,unm ws a,o.length+unm ws a,0⟩:=by unfold binO;rw[if_pos h250]
    have:=Pth.cons (p:=p) (a:=o.length) (st:=0) (m:=m) (by omega) (by omega) (opt_bin (a:=o.length) (n:=unm ws a) (by omega) (by omega) (by omega)) (by rw[e,←hr.2.2.2];exact hm)
    rw[e]at this
    exact this
   ·split at h
    ·cases h
    ·split at h
     ·cases h
     ·rename_i h0 h250 hl2 h251
      have hu:=unm_lt' ws a
      have hr:=runS_len _ _ _ (by omega) h
      have hpre:=run_pre _ _ _ h
      have hpl:=hp.len
      generalize hn:250*(unm ws a-249)+unm ws (a+1)=n at h hr
      refine⟨hpre,3+n,by omega,?_⟩
      have e:binO o.length n=⟨231,249+n/250,n%250,3,n,o.length+n,0⟩:=by unfold binO;rw[if_neg (by omega)]
      have:=Pth.cons (p:=p) (a:=o.length) (st:=0) (m:=m) (by omega) (by omega) (opt_bin (a:=o.length) (n:=n) (by omega) (by omega) (by omega)) (by rw[e,←hr.2.2.2];exact hm)
      rw[e]at this
      exact this
theorem opt_lat{a:Nat}{o:Opt}(h:o ∈ lats a):o ∈ optA p a 0:=by
 unfold optA ascA
 rw[if_pos rfl]
 exact List.mem_append_left _ h
theorem opt_byte{a:Nat}(h:a<p.length):byteO (by' p a) a ∈ optA p a 0:=by
 unfold optA ascA
 rw[if_pos rfl,if_pos h]
 simp
theorem pth_asc{w a:Nat}{o:List UInt8}{a':Nat}{o':List UInt8}(ha:a≤ws.length)(h:ascD ws w a o=.inr (a',o'))(hp:Pre o' p)(hm:Pth p o'.length 0 m):Pre o o'∧∃k,k≤a'-a+1∧Pth p o.length 0 (k+m):=by
 have hlen:=ascD_len ha h
 have latch:∀{x st:Nat},(⟨x,0,0,1,0,o.length,st⟩:Opt) ∈ lats o.length→(Pre o o'∧∃k,k≤a'-a∧Pth p o.length st (k+m))→Pre o o'∧∃k,k≤a'-a+1∧Pth p o.length 0 (k+m):=by
  rintro x st hx ⟨h1,k,h2,h3⟩
  refine⟨h1,1+k,by omega,?_⟩
  rw[Nat.add_assoc]
  exact Pth.cons ((h1.trans hp).len) (by omega) (opt_lat hx) h3
 unfold ascD at h
 split at h
 ·rename_i hc
  cases h
  obtain⟨b1,l1⟩:=hp.at (by omega)
  refine⟨Pre.app _ _,1,by omega,?_⟩
  have hmem:=opt_byte l1
  have e:byteO (by' p o.length) o.length=⟨w-1+1,0,0,1,0,o.length+1,0⟩:=by rw[b1];unfold byteO;rw[if_pos (by omega)]
  rw[e]at hmem
  exact Pth.cons (by omega) (by omega) hmem (by simpa using hm)
 ·split at h
  ·rename_i hc
   cases h
   have e2:o++[UInt8.ofNat (48+(w-130)/10),UInt8.ofNat (48+(w-130)%10)]=(o++[UInt8.ofNat (48+(w-130)/10)])++[UInt8.ofNat (48+(w-130)%10)]:=by simp
   rw[e2]at hp hm
   obtain⟨b2,l2⟩:=hp.at (by omega)
   obtain⟨b1,l1⟩:=((Pre.app _ _).trans hp).at (by omega)
   simp only[List.length_append,List.length_singleton]at b2 l2
   refine⟨⟨_,rfl⟩,1,by omega,?_⟩
   have hmem:(⟨130+(10*(by' p o.length-48)+by' p (o.length+1)-48),0,0,1,0,o.length+2,0⟩:Opt) ∈ optA p o.length 0:=by
    unfold optA ascA pairO
    rw[if_pos rfl,if_pos l1,if_pos ⟨by omega,digB_iff.2 (by rw[b1];omega),digB_iff.2 (by rw[b2];omega)⟩]
    simp
   exact Pth.cons (by omega) (by omega) hmem (by simpa using hm)
  ·split at h
   ·unfold upS at h
    split at h
    ·cases h
    ·split at h
     ·cases h
     ·rename_i h1 h2
      cases h
      obtain⟨b1,l1⟩:=hp.at (by omega)
      refine⟨Pre.app _ _,2,by omega,?_⟩
      have hmem:=opt_byte l1
      have e:byteO (by' p o.length) o.length=⟨235,wd ws a+127-127,0,2,0,o.length+1,0⟩:=by rw[b1];unfold byteO;rw[if_neg (by omega)]
      rw[e]at hmem
      exact Pth.cons (by omega) (by omega) hmem (by simpa using hm)
   ·split at h
    ·exact latch (x:=230) (st:=1) (by simp[lats]) (pth_vals (first:=1) (.inl ⟨rfl,rfl⟩) _ _ _ h (by simp) hp hm)
    ·split at h
     ·exact latch (x:=239) (st:=9) (by simp[lats]) (pth_vals (first:=9) (.inr ⟨rfl,rfl⟩) _ _ _ h (by simp) hp hm)
     ·split at h
      ·exact pth_bin h hp hm
      ·split at h
       ·exact latch (x:=238) (st:=17) (by simp[lats]) (pth_x12 _ _ _ h hp hm)
       ·split at h
        ·refine latch (x:=240) (st:=18) (by simp[lats]) ?_
         obtain⟨h1,k,h2,h3⟩:=pth_edi _ 0 0 _ (base:=o.length) h (by omega) rfl (fun t ht=>absurd ht (by omega)) hp hm
         exact⟨h1,k,by omega,h3⟩
        ·cases h
theorem pth_dec:∀(f a:Nat) (o:List UInt8) {out:List UInt8},decL ws f a o=.inr out→Pre o out∧out.length≤o.length+2*(ws.length-a)∧∃k,k≤ws.length-a∧Pth out o.length 0 k
 | 0,a,o,out,h=>by cases h;exact⟨Pre.refl _,by omega,0,by omega,.nil⟩
 | f+1,a,o,out,h=>by
  simp only[decL]at h
  split at h
  ·cases h;exact⟨Pre.refl _,by omega,0,by omega,.nil⟩
  ·split at h
   ·cases h;exact⟨Pre.refl _,by omega,0,by omega,.nil⟩
   ·cases hq:ascD ws (wd ws a) (a+1) o with
    | inl e=>rw[hq]at h;cases h
    | inr q=>
     obtain⟨a',o'⟩:=q
     rw[hq]at h
     simp only at h
     obtain⟨h1,h2,k,h3,h4⟩:=pth_dec f a' o' h
     have hl:=ascD_len (by omega) hq
     obtain⟨h5,k2,h6,h7⟩:=pth_asc (by omega) hq h1 h4
     exact⟨h5.trans h1,by omega,k2+k,by omega,h7⟩
end
theorem dec_len{ws:List Nat}{p:List UInt8}(h:decS ws=.inr p):p.length≤2*ws.length:=by
 obtain⟨_,h1,_⟩:=pth_dec _ _ _ h
 simpa using h1
theorem dec_cost{ws:List Nat}{p:List UInt8}{c:List Nat}(h:decS ws=.inr p)(hc:Sol p c):cst c 0 0≤ws.length:=by
 obtain⟨_,_,k,h2,h3⟩:=pth_dec _ _ _ h
 have h4:cst c 0 0≤k:=cost_le hc h3
 omega
end Go.Proofs.Ythnflhimcmdnbaa
namespace Go.Proofs.Ythnflhimcmdnbaa
open Go.Abs
set_option linter.unusedSimpArgs false
set_option linter.unusedVariables false
set_option maxRecDepth 20000
theorem runB_len{p:List UInt8}{a n:Nat}(h:a+n≤p.length):(runB p a n).length=n:=by unfold runB;simp;omega
theorem emit_len{p:List UInt8}{k a:Nat}{o:Opt}(hz:1≤o.sz∧o.sz≤3)(h:a+o.run≤p.length):(emit p k a o).length=o.sz+o.run:=by
 unfold emit
 split
 ·rw[hd_len hz.2];omega
 ·rw[List.length_cons,mk_len,List.length_append,List.length_drop,hd_len hz.2,runB_len h];omega
theorem wrd_len{p:List UInt8}{c:List Nat}(hs:Sol p c):∀(f a st:Nat) (W:List Nat),a≤p.length→st<19→cst c a st<1073741824→cst c a st<f→(wrdS p c f a st W).length=W.length+cst c a st
 | 0,a,st,W,ha,hst,hc,hf=>by omega
 | f+1,a,st,W,ha,hst,hc,hf=>by
  rw[wrdS]
  split
  ·rename_i hfin
   obtain⟨rfl,rfl⟩:=hfin
   have:=(hs.row p.length (Nat.le_refl _)).fin rfl
   have h0:cst c p.length 0=0:=by show c.getD (p.length*19+0) 0=0;rw[Nat.add_zero];exact this
   omega
  ·rename_i hfin
   obtain⟨hm,ht⟩:=chs_ok hs ha hst hc hfin
   have hok:=optS_ok ha _ hm
   have hr:a+(chs p c a st).run≤p.length:=by
    rcases optS_run _ hm with h|h
    ·omega
    ·have:=hok.nx.2;omega
   have e:totS c (chs p c a st)=(chs p c a st).sz+(chs p c a st).run+cst c (chs p c a st).nx (chs p c a st).md:=rfl
   have hz:=hok.sz
   rw[wrd_len hs f _ _ _ hok.nx.2 hok.md (by omega) (by omega),List.length_append,emit_len hz hr]
   omega
theorem enc_len{p:List UInt8}{c:List Nat}(hs:Sol p c)(hp:p.length≤4096):(encS p c).length=cst c 0 0:=by
 have:=cost_asc hs p.length 0 (by omega)
 unfold encS
 rw[wrd_len hs _ _ _ _ (Nat.zero_le _) (by omega) (by omega) (by omega)]
 simp
end Go.Proofs.Ythnflhimcmdnbaa
namespace Go.Proofs.Ythnflhimcmdnbaa
open Go.Abs
set_option linter.unusedSimpArgs false
set_option linter.unusedVariables false
set_option maxRecDepth 20000
section
variable {lo:Nat}{H:Heap}{v:Value}
theorem lawMin{l:List Int}(hv:SlI H v l)(hlo:lo≤H.length):Ev cp lo 6 [v] H (fun r _=>r=.bool true):=by
 obtain⟨ad,c,ev⟩:=hv.len
 rw[ev]at hv ⊢
 refine st6 ?_;unfold bd6 cf6;simp only[kB,ctlB]
 repeat' ((first|refine xSDg ?_|refine xODg rfl ?_);(try simp only[ctlB]))
 by_cases hb:250<l.length
 ·have hd:decide ((l.length:Int)>250)=true:=decide_eq_true (by omega)
  refine xCDg (fun h=>?_) (fun h=>?_)
  ·clear h
   (try simp only[ctlB])
   refine xHDg ?_
   refine wpH_call0 (alive hlo) ?_
   rintro r H1 ⟨hx,rfl⟩
   (try simp only[ctlB])
   repeat' ((first|refine xSDg ?_|refine xODg rfl ?_);(try simp only[ctlB]))
   refine xRDg ?_
   rfl
  ·exfalso;simp at h
 have hd:decide ((l.length:Int)>250)=false:=decide_eq_false (by omega)
 refine xCDg (fun h=>?_) (fun h=>?_)
 ·exfalso;simp at h
 clear h hd
 (try simp only[ctlB])
 refine xHDg ?_
 refine wpH_call0 (decP hv (by omega) hlo) ?_
 rintro r H1 ⟨hx1,hr⟩
 have hl1:=hx1.1
 cases hq:decT l with
 | inl e=>
  rw[hq]at hr
  obtain⟨rfl,he⟩:=hr
  (try simp only[ctlB])
  repeat' ((first|refine xSDg ?_|refine xODg rfl ?_);(try simp only[ctlB]))
  refine xCDg (fun h=>?_) (fun h=>?_)
  ·clear h
   (try simp only[ctlB])
   refine aw_hv_if (t:=true) (xEDg) (by simp(disch:=first|omega|(simp only[lenB];omega))only[evB,xBDc,Nat.reduceAdd,Nat.reduceBEq,Int.reduceToNat, *]) (by simp(disch:=first|omega|(simp only[lenB];omega))only[evB,xBDc,Nat.reduceAdd,Nat.reduceBEq,Int.reduceToNat, *];try rfl) (fun _=>⟨_,xEDg,?_⟩) (fun h=>by cases h)
   refine wpH_call0 (alive (by omega)) ?_
   rintro r H2 ⟨hx,rfl⟩
   (try simp only[ctlB])
   repeat' ((first|refine xSDg ?_|refine xODg rfl ?_);(try simp only[ctlB]))
   refine xRDg ?_
   rfl
  ·exfalso;simp at h;exact he h
 | inr p=>
  rw[hq]at hr
  obtain⟨u,rfl,hu⟩:=hr
  have hds:decS (l.map Int.toNat)=.inr p:=by
   unfold decT at hq
   split at hq
   ·cases hq
   ·split at hq
    ·cases hq
    ·exact hq
  have hpl:=dec_len hds
  rw[List.length_map]at hpl
  have hdl:False∨∀{c:List Nat},Sol p c→cst c 0 0≤l.length:=.inr (fun h=>by
   have:=dec_cost hds h
   simpa using this)
  clear hq hds
  obtain⟨au,cu,eu⟩:=hu.len
  rw[eu]at hu ⊢
  clear eu
  (try simp only[ctlB])
  repeat' ((first|refine xSDg ?_|refine xODg rfl ?_);(try simp only[ctlB]))
  refine xCDg (fun h=>?_) (fun h=>?_)
  ·exfalso;simp at h
  clear h
  (try simp only[ctlB])
  refine xHDg ?_
  refine wpH_call0 (lngP hu (by omega) (by omega)) ?_
  rintro r H2 ⟨hx2,c1,hn1,rfl⟩
  have hl2:=hx2.1
  have hc1:=cost_asc (new_sol hn1) p.length 0 (by omega)
  have hd1:=hdl.resolve_left id (new_sol hn1)
  replace hn1:False∨_:=.inr hn1
  (try simp only[ctlB])
  repeat' ((first|refine xSDg ?_|refine xODg rfl ?_);(try simp only[ctlB]))
  refine xHDg ?_
  refine wpH_call0 (encP (hu.mono hx2) (by omega) (by omega)) ?_
  rintro r H3 ⟨hx3,u3,c3,hn3,rfl,hu3⟩
  have hl3:=hx3.1
  have hs1:=new_sol (hn1.resolve_left id)
  obtain rfl:=sol_uniq hs1 (new_sol hn3)
  have hel:=enc_len hs1 (by omega)
  obtain⟨a3,k3,e3⟩:=hu3.len
  rw[hel]at e3
  rw[e3]
  clear hu3 e3 hel hs1 hn1 hn3 hdl
  generalize cst c1 0 0=n at hc1 hd1 ⊢
  have hdn:decide ((n:Int)≤(l.length:Nat))=true:=decide_eq_true (by omega)
  (try simp only[ctlB])
  repeat' ((first|refine xSDg ?_|refine xODg rfl ?_);(try simp only[ctlB]))
  refine aw_hv_if (t:=true) (xEDg) (by simp(disch:=first|omega|(simp only[lenB];omega))only[evB,xBDc,Nat.reduceAdd,Nat.reduceBEq,Int.reduceToNat, *]) (by simp(disch:=first|omega|(simp only[lenB];omega))only[evB,xBDc,Nat.reduceAdd,Nat.reduceBEq,Int.reduceToNat, *];try rfl) (fun _=>⟨_,xEDg,?_⟩) (fun h=>by cases h)
  refine wpH_call0 (alive (by omega)) ?_
  rintro r H4 ⟨hx,rfl⟩
  (try simp only[ctlB])
  repeat' ((first|refine xSDg ?_|refine xODg rfl ?_);(try simp only[ctlB]))
  refine xRDg ?_
  rfl
end
end Go.Proofs.Ythnflhimcmdnbaa
