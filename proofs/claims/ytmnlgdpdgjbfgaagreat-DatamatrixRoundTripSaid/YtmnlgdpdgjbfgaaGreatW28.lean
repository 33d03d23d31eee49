/- Lemmas. -/
import Derived.Test.YtmnlgdpdgjbfgaaGreatW27
set_option linter.all false
namespace Go.Proofs.YtmnlgdpdgjbfgaaGreat
open Go.Abs
variable{p:List UInt8}{n:Nat}
set_option maxRecDepth 20000
def MU(p:List UInt8)(a:Nat):List Opt:=(List.range (min (p.length-a) 1749)).map fun i=>cX a (i+1)
def MM(p:List UInt8)(a:Nat):List Opt:=jE a++if a<p.length then[fT (by' p a) a]++lX p a++MU p a else[]
def GF(p:List UInt8)(a st:Nat):List Opt:=
 if st=0 then MM p a else if st<9 then ll p a (st-1) 1 false else if st<17 then ll p a (st-9) 9 true else if st=17 then tT p a else tJ p a
theorem wg{a:Nat}{o:Opt}:o ∈ MU p a↔∃n,1<=n/\n<=1749/\a+n<=p.length/\o=cX a n:=by
 unfold MU;rw[List.mem_map];constructor
 ·rintro⟨i,hi,rfl⟩
  have:=List.mem_range.1 hi;exact⟨i+1,byO,byO,byO,rfl⟩
 ·rintro⟨n,h1,h2,h3,rfl⟩
  exact⟨n-1,List.mem_range.2 byO,by rw[show n-1+1=n by omega]⟩
theorem ui{c:List Nat}{a:Nat}:∀{n k:Nat},1<=k->k<=n->bh c (gi c a n)<=bh c (cX a k)
 | 0,k,h1,h2=>by omega
 | n+1,k,h1,h2=>by
  rw[gi];split
  ·have:k=1:=byO
   subst this;exact Nat.le_refl _
  ·split
   ·rename_i h
    by_cases hk:k=n+1
    ·subst hk;exact Nat.le_refl _
    ·have:=ui (c:=c) (a:=a) (n:=n) h1 byO;omega
   ·rename_i h
    by_cases hk:k=n+1
    ·subst hk;omega
    ·exact ui h1 byO
theorem Cf(c:List Nat){a st:Nat}{o:Opt}(h:o ∈ GF p a st):∃o' ∈ eQ p c a st,bh c o'<=bh c o:=by
 unfold GF at h;unfold eQ;split at h
 ·rename_i hs
  rw[if_pos hs];unfold MM at h;unfold qN;rcases List.mem_append.1 h with h|h
  ·exact⟨o,List.mem_append_left _ h,Nat.le_refl _⟩
  ·split at h
   ·rename_i ha
    rw[if_pos ha];rcases List.mem_append.1 h with h|h
    ·exact⟨o,List.mem_append_right _ (List.mem_append_left _ h),Nat.le_refl _⟩
    ·obtain⟨n,h1,h2,h3,rfl⟩:=wg.1 h
     exact⟨uj p c a,List.mem_append_right _ (by simp),ui h1 byO⟩
   ·cases h
 ·rename_i hs
  rw[if_neg hs];exact⟨o,h,Nat.le_refl _⟩
inductive Pth (p:List UInt8):Nat->Nat->Nat->Prop
 | nil:Pth p p.length 0 0
 | cons {a st m:Nat} {o:Opt}:a<=p.length->st<19->o ∈ GF p a st->Pth p o.nx o.md m->Pth p a st (o.sz+o.run+m)
theorem Hu{c:List Nat}(hs:Sol p c){a st m:Nat}(h:Pth p a st m):cst c a st<=m:=by
 induction h with
 | nil=>
  have:=(hs.row p.length (Nat.le_refl _)).fin rfl;show c.getD (p.length*19+0) 0<=0;rw[Nat.add_zero,this];exact Nat.le_refl _
 | @cons a st m o ha hst ho _ ih=>
  obtain⟨o',ho',ht⟩:=Cf c ho;have h1:=(hs.row a ha).fix st hst o' ho';have h2:bh c o=o.sz+o.run+cst c o.nx o.md:=rfl;show c.getD (a*19+st) 0<=_;omega
set_option maxRecDepth 1000000
structure Win (p r:List UInt8)(d:Nat):Prop where
 le:d+p.length<=r.length
 eq:∀i,i<p.length->by' r (d+i)=by' p i
section
variable {p r:List UInt8}{d:Nat}
end
theorem Hl{p q:List UInt8}{i:Nat}(h:i<p.length):by' (p++q) i=by' p i:=by
 unfold by';simp[au₀,ax₀ h]
set_option maxRecDepth 100000
def Pre(o p:List UInt8):Prop:=∃r,p=o++r
theorem Pre.refl(o:List UInt8):Pre o o:=⟨[],by simp⟩
theorem Pre.trans{a b c:List UInt8}(h:Pre a b)(k:Pre b c):Pre a c:=by
 obtain⟨r,rfl⟩:=h;obtain⟨s,rfl⟩:=k;exact⟨r++s,by simp⟩
theorem Pre.app(o l:List UInt8):Pre o (o++l):=⟨l,rfl⟩
theorem Pre.len{o p:List UInt8}(h:Pre o p):o.length<=p.length:=by obtain⟨r,rfl⟩:=h;simp
theorem Pre.by{o p:List UInt8}(h:Pre o p){i:Nat}(hi:i<o.length):by' p i=by' o i:=by
 obtain⟨r,rfl⟩:=h;exact Hl hi
theorem Hm{o:List UInt8}(hn:n<256):by' (o++[UInt8.ofNat n]) o.length=n:=by
 unfold by';simp[au₀,UInt8.toNat_ofNat_of_lt' (show n<UInt8.size from hn)]
theorem Pre.at{o p:List UInt8}{n:Nat}(h:Pre (o++[UInt8.ofNat n]) p)(hn:n<256):by' p o.length=n/\o.length<p.length:=by
 have hl:=h.len;rw[as₀,List.length_singleton]at hl;exact⟨by rw[h.by (by simp),Hm hn],byO⟩
def stV(first s:Nat)(up:Bool):Nat:=ko first ⟨0,0,s,up⟩
def QK(first:Nat)(lower:Bool):Prop:=(first=1/\lower=false)\/(first=9/\lower=true)
section
variable {ws:List Nat}{p:List UInt8}{m:Nat}
end
section
variable {ws:List Nat}{p:List UInt8}{m:Nat}
theorem JU{a n:Nat}(h1:1<=n)(h2:n<=1749)(h3:a+n<=p.length):cX a n ∈ GF p a 0:=by
 unfold GF MM;rw[if_pos rfl,if_pos byO];exact List.mem_append_right _ (List.mem_append_right _ (wg.2 ⟨n,h1,h2,h3,rfl⟩))
end
theorem oY{a n:Nat}(h:a+n<=p.length):(pS p a n).length=n:=by unfold pS;simp;omega
theorem xV{k a:Nat}{o:Opt}(hz:1<=o.sz/\o.sz<=3)(h:a+o.run<=p.length):(emit p k a o).length=o.sz+o.run:=by
 unfold emit;split
 ·rw[lO hz.2];omega
 ·rw[ak₀,kP,as₀,List.length_drop,lO hz.2,oY h];omega
theorem Bi{p:List UInt8}{c:List Nat}(hs:Sol p c):∀(f a st:Nat) (W:List Nat),a<=p.length->st<19->cst c a st<1073741824->cst c a st<f->(n8 p c f a st W).length=W.length+cst c a st
 | 0,a,st,W,ha,hst,hc,hf=>by omega
 | f+1,a,st,W,ha,hst,hc,hf=>by
  rw[n8];split
  ·rename_i hfin
   obtain⟨rfl,rfl⟩:=hfin;have:=(hs.row p.length (Nat.le_refl _)).fin rfl;have h0:cst c p.length 0=0:=by show c.getD (p.length*19+0) 0=0;rw[Nat.add_zero];exact this
   omega
  ·rename_i hfin
   obtain⟨hm,ht⟩:=uu hs ha hst hc hfin;have hok:=jP ha _ hm;have hr:a+(chs p c a st).run<=p.length:=by
    rcases sL _ hm with h|h
    ·omega
    ·have:=hok.nx.2;omega
   have e:bh c (chs p c a st)=(chs p c a st).sz+(chs p c a st).run+cst c (chs p c a st).nx (chs p c a st).md:=rfl;have hz:=hok.sz;rw[Bi hs f _ _ _ hok.nx.2 hok.md byO byO,as₀,xV hz hr];omega
theorem IT{c:List Nat}(hs:Sol p c)(hp:p.length<=4096):(oG p c).length=cst c 0 0:=by
 have:=lC hs p.length 0 byO;unfold oG;rw[Bi hs _ _ _ _ (Nat.zero_le _) byO byO byO];simp
set_option maxRecDepth 100000
def AtW(ws W E:List Nat):Prop:=∃r,ws=W++E++r
theorem AtW.wd{ws W E:List Nat}(h:AtW ws W E){i:Nat}(hi:i<E.length):wd ws (W.length+i)=E.getD i 0:=by
 obtain⟨r,rfl⟩:=h;unfold Go.Proofs.YtmnlgdpdgjbfgaaGreat.wd;rw[ba₀,au₀,aw₀ byO,Nat.add_sub_cancel_left,ax₀ hi,<-au₀]
theorem AtW.len{ws W E:List Nat}(h:AtW ws W E):W.length+E.length<=ws.length:=by
 obtain⟨r,rfl⟩:=h;simp
theorem gP{a:Nat}(h:a<p.length):p.take (a+1)=p.take a++[UInt8.ofNat (by' p a)]:=by
 rw[List.take_succ_eq_append_getElem h];congr 2;unfold by';simp[au₀,h]
theorem cpT:(List.range 128).all (fun n=>[false,true].all fun b=>(jZ b (dE b n).1 (dE b n).2==n)&&((dE b n).1 != 0 || decide (3<=(dE b n).2))&&((dE b n).1 != 2 || (dE b n).2 != 30))=true:=by kernel_rfl
theorem CB{b:Bool}(h:n<128):jZ b (dE b n).1 (dE b n).2=n/\((dE b n).1=0->3<=(dE b n).2)/\((dE b n).1=2->(dE b n).2≠30):=by
 have:=List.all_eq_true.1 (List.all_eq_true.1 cpT n (List.mem_range.2 h)) b (by cases b<;>simp);simp only[ac₀,ar₀,beq_iff_eq,bne_iff_ne,af₀]at this;refine⟨this.1.1,fun e=>?_,fun e=>?_⟩
 ·rcases this.1.2 with h|h
  ·exact absurd e h
  ·exact h
 ·rcases this.2 with h|h
  ·exact absurd e h
  ·exact h
theorem va{lower:Bool}{a s:Nat}{up:Bool}{m:Mv}(h:m ∈ j1 p a s up lower):kx lower (s,up,p.take a) m.v=.inr (m.s,m.u,p.take m.a):=by
 unfold j1 at h;rw[be₀,be₀]at h;unfold kx;simp only;rcases h with (h|h)|h
 ·unfold mvA at h
  split at h
  ·rename_i hs
   unfold mv3 at h;obtain⟨i,hi,rfl⟩:=List.mem_map.1 h;have:=List.mem_range.1 hi;rw[if_pos ⟨hs,by simp only;omega⟩]
  ·cases h
 ·unfold mvB at h
  split at h
  ·rename_i hc
   obtain⟨h1,h2,h3⟩:=hc;obtain rfl:=List.mem_singleton.1 h;have hb:=pg p a;obtain⟨c1,c2,c3⟩:=CB (b:=lower) (n:=by' p a%128) byO;rw[h2]at c1 c2 c3;simp only;rw[if_neg (by rintro⟨e1,e2⟩;have:=c2 e1;omega),if_neg (by rintro⟨e1,e2,_⟩;exact c3 e1 e2),c1,if_neg byO,gP h1];subst h3;congr 6;by_cases h128:128<=by' p a
   ·rw[decide_eq_true h128]
    simp only[if_true];omega
   ·rw[decide_eq_false h128]
    simp only[ah₀,if_false];omega
  ·cases h
 ·unfold mvD at h
  split at h
  ·rename_i hc
   obtain rfl:=List.mem_singleton.1 h;obtain⟨rfl,rfl⟩:=hc;rfl
  ·cases h
theorem xpT:(List.range 256).all (fun n=>dL n==0 || kj (dL n-1)==n)=true:=by kernel_rfl
theorem tH(h:n<256)(h0:dL n≠0):kj (dL n-1)=n:=by
 have:=List.all_eq_true.1 xpT n (List.mem_range.2 h);simpa[h0]using this
theorem y7{ws W:List Nat}{u v w a md:Nat}(hu:u<=39)(hv:v<=39)(hw:w<=39)(h:AtW ws W (hd (me u v w a md))):kv ws W.length=.inr (some (u,v,w)):=by
 have e:hd (me u v w a md)=[(1600*u+40*v+w+1)/256,(1600*u+40*v+w+1)%256]:=rfl;rw[e]at h;have hl:=h.len;have h0:=h.wd (i:=0) (by simp);have h1:=h.wd (i:=1) (by simp);simp only[ak₀,an₀]at hl;rw[Nat.add_zero]at h0;replace h0:wd ws W.length=(1600*u+40*v+w+1)/256:=h0;replace h1:wd ws (W.length+1)=(1600*u+40*v+w+1)%256:=h1;unfold kv;rw[h0,h1,if_neg byO,if_neg byO,if_neg byO,if_neg byO];have q1:(256*((1600*u+40*v+w+1)/256)+(1600*u+40*v+w+1)%256-1)/1600=u:=byO;have q2:(256*((1600*u+40*v+w+1)/256)+(1600*u+40*v+w+1)%256-1)/40%40=v:=byO;have q3:(256*((1600*u+40*v+w+1)/256)+(1600*u+40*v+w+1)%256-1)%40=w:=byO;rw[q1,q2,q3]
theorem xl{ws W:List Nat}{a:Nat}(h:AtW ws W (hd (eg a))):kv ws W.length=.inr none:=by
 have hl:=h.len;have h0:=h.wd (i:=0) (by simp[hd,eg]);rw[Nat.add_zero]at h0;replace h0:wd ws W.length=254:=h0;have hl2:(hd (eg a)).length=1:=rfl;unfold kv;rw[h0,if_neg byO,if_pos rfl]
theorem Oi{ws:List Nat}{i x:Nat}(hx:x<256)(h:wd ws i=(x+msk i)%256):unm ws i=x:=by
 unfold unm;rw[h];have:msk i<=255:=by unfold msk;omega
 omega
theorem Fl:∀(k:Nat) (l:List Nat) (i:Nat),i<l.length->(mk k l).getD i 0=(l.getD i 0+msk (k+i))%256
 | k,x::l,0,h=>by simp[mk]
 | k,x::l,i+1,h=>by
  simp only[mk,List.getD_cons_succ];rw[Fl (k+1) l i (by simpa using h),show k+1+i=k+(i+1) by omega]
theorem yV{a n i:Nat}(hi:i<n)(h:a+n<=p.length):(pS p a n).getD i 0=by' p (a+i):=by
 unfold pS by';have:i<p.length-a:=byO;simp[au₀,az₀,List.getElem?_take,hi,List.getElem?_drop,show a+i<p.length by omega]
theorem run_read{ws:List Nat}{p:List UInt8}:∀(m i b:Nat),i+m<=ws.length->b+m<=p.length->(∀t,t<m->unm ws (i+t)=by' p (b+t))->qT ws m i (p.take b)=.inr (i+m,p.take (b+m))
 | 0,i,b,h1,h2,h3=>rfl
 | m+1,i,b,h1,h2,h3=>by
  have h0:=h3 0 byO;rw[Nat.add_zero,Nat.add_zero]at h0;rw[qT,if_neg byO,h0,<-gP byO,run_read m (i+1) (b+1) byO byO (fun t ht=>by rw[show i+1+t=i+(t+1) by omega,show b+1+t=b+(t+1) by omega];exact h3 (t+1) byO)];rw[show i+1+m=i+(m+1) by omega,show b+1+m=b+(m+1) by omega]
theorem De{ws W:List Nat}{a n:Nat}(h1:1<=n)(h2:n<=1749)(h3:a+n<=p.length)(h:AtW ws W (emit p W.length a (cX a n))):wd ws W.length=231/\W.length<ws.length/\wi ws (W.length+1) (p.take a)=.inr (W.length+(cX a n).sz+n,p.take (a+n)):=by
 have hr:(cX a n).run=n:=by unfold cX;split<;>rfl
 have h00:(cX a n).h0=231:=by unfold cX;split<;>rfl
 have hem:emit p W.length a (cX a n)=231::mk (W.length+1) ((hd (cX a n)).drop 1++pS p a n):=by
  unfold emit;rw[hr,if_neg byO,h00]
 rw[hem]at h;have hlen:=h.len;have g0:=h.wd (i:=0) (by simp);rw[Nat.add_zero]at g0;have hget:∀i,i<((hd (cX a n)).drop 1++pS p a n).length->((hd (cX a n)).drop 1++pS p a n).getD i 0<256->unm ws (W.length+1+i)=((hd (cX a n)).drop 1++pS p a n).getD i 0:=by
  intro i hi hlt;have:=h.wd (i:=i+1) (by rw[ak₀,kP];omega);rw[List.getD_cons_succ,Fl _ _ _ hi,show W.length+(i+1)=W.length+1+i by omega]at this;exact Oi hlt this
 rw[ak₀,kP,as₀,oY h3]at hlen;refine⟨g0,byO,?_⟩;by_cases h250:n<250
 ·have e:cX a n=⟨231,n,0,2,n,a+n,0⟩:=by unfold cX;rw[if_pos h250]
  have ed:(hd (cX a n)).drop 1=[n]:=by rw[e];rfl
  rw[ed]at hget hlen;simp only[ak₀,an₀]at hlen;have u0:=hget 0 (by simp) (by show n<256;omega);rw[Nat.add_zero]at u0;replace u0:unm ws (W.length+1)=n:=u0;rw[e];unfold wi;rw[if_neg byO,u0,if_neg byO,if_pos h250,run_read n _ a byO h3 ?_]
  ·congr 2
  ·intro t ht
   have hb:=pg p (a+t);have hq:([n]++pS p a n).getD (t+1) 0=by' p (a+t):=by
    rw[am₀,List.nil_append,List.getD_cons_succ];exact yV ht h3
   have:=hget (t+1) (by simp[oY h3];omega) (by rw[hq];exact hb);rw[hq]at this;rw[show W.length+1+1+t=W.length+1+(t+1) by omega];exact this
 ·have e:cX a n=⟨231,249+n/250,n%250,3,n,a+n,0⟩:=by unfold cX;rw[if_neg h250]
  have ed:(hd (cX a n)).drop 1=[249+n/250,n%250]:=by rw[e];rfl
  rw[ed]at hget hlen;simp only[ak₀,an₀]at hlen;have u0:=hget 0 (by simp) (by show 249+n/250<256;omega);have u1:=hget 1 (by simp) (by show n%250<256;omega);rw[Nat.add_zero]at u0;replace u0:unm ws (W.length+1)=249+n/250:=u0;replace u1:unm ws (W.length+1+1)=n%250:=u1;rw[e];unfold wi;rw[if_neg byO,u0,if_neg byO,if_neg byO,if_neg byO,u1,if_neg byO,show 250*(249+n/250-249)+n%250=n by omega,run_read n _ a byO h3 ?_]
  ·congr 2
  ·intro t ht
   have hb:=pg p (a+t);have hq:([249+n/250,n%250]++pS p a n).getD (t+2) 0=by' p (a+t):=by
    rw[am₀,am₀,List.nil_append,List.getD_cons_succ,List.getD_cons_succ];exact yV ht h3
   have:=hget (t+2) (by simp[oY h3];omega) (by rw[hq];exact hb);rw[hq]at this;rw[show W.length+1+2+t=W.length+1+(t+2) by omega];exact this
def gA(p:List UInt8)(a:Nat):Nat->Nat
 | 0=>0
 | i+1=>64*gA p a i+by' p (a+i)%64
def okC(p:List UInt8)(a j:Nat):Prop:=a+j<p.length/\32<=by' p (a+j)/\by' p (a+j)<=94
theorem A9{p:List UInt8}{a:Nat}:∀(k n:Nat) {o:Opt},n+k=4->o ∈ jd p a k n (gA p a n)->(∃i,n<=i/\i<4/\(∀j,n<=j->j<i->okC p a j)/\o=fo (64*gA p a i+31) (i+1) (a+i) 0)\/((∀j,n<=j->j<4->okC p a j)/\o=fo (gA p a 4) 4 (a+4) 18)
 | 0,n,o,h,ho=>by
  have:n=4:=byO;subst this;simp only[jd]at ho;exact .inr ⟨fun j h1 h2=>byO,List.mem_singleton.1 ho⟩
 | k+1,n,o,h,ho=>by
  simp only[jd]at ho;rcases List.mem_cons.1 ho with rfl|ho
  ·exact .inl ⟨n,Nat.le_refl _,byO,fun j h1 h2=>byO,rfl⟩
  ·split at ho
   ·rename_i hc
    rcases A9 k (n+1) byO ho with ⟨i,h1,h2,h3,h4⟩|⟨h3,h4⟩
    ·refine .inl ⟨i,byO,h2,fun j hj1 hj2=>?_,h4⟩
     by_cases e:j=n
     ·subst e;exact hc
     ·exact h3 j byO hj2
    ·refine .inr ⟨fun j hj1 hj2=>?_,h4⟩
     by_cases e:j=n
     ·subst e;exact hc
     ·exact h3 j byO hj2
   ·cases ho
section
variable {ws:List Nat}{a0 j:Nat}
theorem Gq:k7 ws a0 (24*j)=wd ws (a0+3*j)/4%64:=by
 unfold k7;have e1:24*j/8=3*j:=byO;have e2:(24*j+5)/8=3*j:=byO;have e3:24*j%8=0:=byO;rw[e1,e2,e3,if_neg byO];have:(2:Nat)^(10-0)=1024:=by decide
 rw[this];omega
theorem Js:k7 ws a0 (24*j+6)=(256*wd ws (a0+3*j)+wd ws (a0+3*j+1))/16%64:=by
 unfold k7;have e1:(24*j+6)/8=3*j:=byO;have e2:(24*j+6+5)/8=3*j+1:=byO;have e3:(24*j+6)%8=6:=byO;rw[e1,e2,e3,if_pos byO];have:(2:Nat)^(10-6)=16:=by decide
 rw[this,Nat.add_assoc a0]
theorem O9:k7 ws a0 (24*j+12)=(256*wd ws (a0+3*j+1)+wd ws (a0+3*j+2))/64%64:=by
 unfold k7;have e1:(24*j+12)/8=3*j+1:=byO;have e2:(24*j+12+5)/8=3*j+2:=byO;have e3:(24*j+12)%8=4:=byO;rw[e1,e2,e3,if_pos byO];have:(2:Nat)^(10-4)=64:=by decide
 rw[this,Nat.add_assoc a0,Nat.add_assoc a0]
theorem Ql:k7 ws a0 (24*j+18)=wd ws (a0+3*j+2)%64:=by
 unfold k7;have e1:(24*j+18)/8=3*j+2:=byO;have e2:(24*j+18+5)/8=3*j+2:=byO;have e3:(24*j+18)%8=2:=byO;rw[e1,e2,e3,if_neg byO];have:(2:Nat)^(10-2)=256:=by decide
 rw[this,Nat.add_assoc a0];omega
theorem gK{f bit b:Nat}{o:List UInt8}(h1:a0+(bit+5)/8<ws.length)(h2:k7 ws a0 bit=b%64)(hb:32<=b/\b<=94):lJ ws a0 (f+1) bit o=lJ ws a0 f (bit+6) (o++[UInt8.ofNat b]):=by
 rw[lJ,if_neg byO,h2,if_neg byO];congr 3;congr 1;split<;>omega
theorem oE{f bit:Nat}{o:List UInt8}(h1:a0+(bit+5)/8<ws.length)(h2:k7 ws a0 bit=31)(h3:wd ws (a0+(bit+5)/8)%2^((8-(bit+6)%8)%8)=0):lJ ws a0 (f+1) bit o=.inr (a0+(bit+5)/8+1,o):=by
 rw[lJ,if_neg byO,if_pos h2,if_neg (by rw[h3];simp)]
end
theorem ar4{x0 x1 x2 x3 V:Nat}(h0:x0<64)(h1:x1<64)(h2:x2<64)(h3:x3<64)(hV:V=64*(64*(64*x0+x1)+x2)+x3):V*1/65536/4%64=x0/\(256*(V*1/65536)+V*1/256%256)/16%64=x1/\(256*(V*1/256%256)+V*1%256)/64%64=x2/\V*1%256%64=x3:=by
 refine⟨?_,?_,?_,?_⟩<;>omega
theorem nB{a j:Nat}(h:okC p a j):p.take (a+j)++[UInt8.ofNat (by' p (a+j))]=p.take (a+j+1):=(gP h.1).symm
theorem vB{ws W:List Nat}{a a0 j g i:Nat}(hk:a0+3*j=W.length)(hi:i<4)(hc:∀t,t<i->okC p a t)(h:AtW ws W (hd (fo (64*gA p a i+31) (i+1) (a+i) 0)))(hg:i+1<=g):lJ ws a0 g (24*j) (p.take a)=.inr (W.length+(6*(i+1)+7)/8,p.take (a+i)):=by
 have hl:=h.len;have p18:(2:Nat)^(6*(4-1))=262144:=by decide
 have p12:(2:Nat)^(6*(4-2))=4096:=by decide
 have p6:(2:Nat)^(6*(4-3))=64:=by decide
 have p0:(2:Nat)^(6*(4-4))=1:=by decide
 have hcase:i=0\/i=1\/i=2\/i=3:=byO;rcases hcase with rfl|rfl|rfl|rfl
 ·obtain⟨g,rfl⟩:∃q,g=q+1:=⟨g-1,byO⟩
  have e:hd (fo (64*gA p a 0+31) (0+1) (a+0) 0)=[(64*0+31)*262144/65536]:=by
   unfold hd fo;rw[p18];rfl
  rw[e]at h hl;have b0:=h.wd (i:=0) (by simp);rw[Nat.add_zero]at b0;replace b0:wd ws W.length=124:=b0;simp only[ak₀,an₀]at hl;have s0:=Gq (ws:=ws) (a0:=a0) (j:=j);rw[hk,b0]at s0;have l0:(24*j+5)/8=3*j:=byO;have r0:(8-(24*j+6)%8)%8=2:=byO;rw[oE byO s0 (by rw[l0,hk,b0,r0]),l0,hk];rfl
 ·have c0:=hc 0 byO
  obtain⟨g,rfl⟩:∃q,g=q+2:=⟨g-2,byO⟩;have e:hd (fo (64*gA p a 1+31) (1+1) (a+1) 0)=[(64*(by' p a%64)+31)*4096/65536,(64*(by' p a%64)+31)*4096/256%256]:=by
   unfold hd fo;rw[p12];simp only[gA,Nat.mul_zero,Nat.zero_add,Nat.add_zero];rfl
  rw[e]at h hl;have b0:=h.wd (i:=0) (by simp);have b1:=h.wd (i:=1) (by simp);rw[Nat.add_zero]at b0;replace b0:wd ws W.length=(64*(by' p a%64)+31)*4096/65536:=b0;replace b1:wd ws (W.length+1)=(64*(by' p a%64)+31)*4096/256%256:=b1;simp only[ak₀,an₀]at hl;have s0:=Gq (ws:=ws) (a0:=a0) (j:=j);have s1:=Js (ws:=ws) (a0:=a0) (j:=j);rw[hk,b0]at s0;rw[hk,b0,b1]at s1;have l1:(24*j+6+5)/8=3*j+1:=byO;have r1:(8-(24*j+6+6)%8)%8=4:=byO;have t0:=nB c0;rw[Nat.add_zero]at t0;rw[gK (b:=by' p a) byO (by rw[s0];omega) c0.2,t0,oE byO (by rw[s1];omega) (by rw[l1,<-Nat.add_assoc,hk,b1,r1];omega),l1];congr 2;omega
 ·have c0:=hc 0 byO
  have c1:=hc 1 byO;obtain⟨g,rfl⟩:∃q,g=q+3:=⟨g-3,byO⟩;have e:hd (fo (64*gA p a 2+31) (2+1) (a+2) 0)=[(64*(64*(by' p a%64)+by' p (a+1)%64)+31)*64/65536,(64*(64*(by' p a%64)+by' p (a+1)%64)+31)*64/256%256,(64*(64*(by' p a%64)+by' p (a+1)%64)+31)*64%256]:=by
   unfold hd fo;rw[p6];simp only[gA,Nat.mul_zero,Nat.zero_add,Nat.add_zero];rfl
  rw[e]at h hl;have b0:=h.wd (i:=0) (by simp);have b1:=h.wd (i:=1) (by simp);have b2:=h.wd (i:=2) (by simp);rw[Nat.add_zero]at b0;replace b0:wd ws W.length=(64*(64*(by' p a%64)+by' p (a+1)%64)+31)*64/65536:=b0;replace b1:wd ws (W.length+1)=(64*(64*(by' p a%64)+by' p (a+1)%64)+31)*64/256%256:=b1;replace b2:wd ws (W.length+2)=(64*(64*(by' p a%64)+by' p (a+1)%64)+31)*64%256:=b2;simp only[ak₀,an₀]at hl;have s0:=Gq (ws:=ws) (a0:=a0) (j:=j);have s1:=Js (ws:=ws) (a0:=a0) (j:=j);have s2:=O9 (ws:=ws) (a0:=a0) (j:=j);rw[hk,b0]at s0;rw[hk,b0,b1]at s1;rw[hk,b1,b2]at s2;have l2:(24*j+6+6+5)/8=3*j+2:=byO;have r2:(8-(24*j+6+6+6)%8)%8=6:=byO;have t0:=nB c0;rw[Nat.add_zero]at t0;rw[gK (b:=by' p a) byO (by rw[s0];omega) c0.2,t0,gK (b:=by' p (a+1)) byO (by rw[s1];omega) c1.2,nB c1,oE byO (by rw[show 24*j+6+6=24*j+12 by omega,s2];omega) (by rw[l2,<-Nat.add_assoc,hk,b2,r2];omega),l2];congr 2;omega
 ·have c0:=hc 0 byO
  have c1:=hc 1 byO;have c2:=hc 2 byO;obtain⟨g,rfl⟩:∃q,g=q+4:=⟨g-4,byO⟩;have e:hd (fo (64*gA p a 3+31) (3+1) (a+3) 0)=[(64*(64*(64*(by' p a%64)+by' p (a+1)%64)+by' p (a+2)%64)+31)*1/65536,(64*(64*(64*(by' p a%64)+by' p (a+1)%64)+by' p (a+2)%64)+31)*1/256%256,(64*(64*(64*(by' p a%64)+by' p (a+1)%64)+by' p (a+2)%64)+31)*1%256]:=by
   unfold hd fo;rw[p0];simp only[gA,Nat.mul_zero,Nat.zero_add,Nat.add_zero];rfl
  rw[e]at h hl;have b0:=h.wd (i:=0) (by simp);have b1:=h.wd (i:=1) (by simp);have b2:=h.wd (i:=2) (by simp);rw[Nat.add_zero]at b0;replace b0:wd ws W.length=(64*(64*(64*(by' p a%64)+by' p (a+1)%64)+by' p (a+2)%64)+31)*1/65536:=b0;replace b1:wd ws (W.length+1)=(64*(64*(64*(by' p a%64)+by' p (a+1)%64)+by' p (a+2)%64)+31)*1/256%256:=b1;replace b2:wd ws (W.length+2)=(64*(64*(64*(by' p a%64)+by' p (a+1)%64)+by' p (a+2)%64)+31)*1%256:=b2;simp only[ak₀,an₀]at hl;have s0:=Gq (ws:=ws) (a0:=a0) (j:=j);have s1:=Js (ws:=ws) (a0:=a0) (j:=j);have s2:=O9 (ws:=ws) (a0:=a0) (j:=j);have s3:=Ql (ws:=ws) (a0:=a0) (j:=j);rw[hk,b0]at s0;rw[hk,b0,b1]at s1;rw[hk,b1,b2]at s2;rw[hk,b2]at s3;have l3:(24*j+6+6+6+5)/8=3*j+2:=byO;have r3:(8-(24*j+6+6+6+6)%8)%8=0:=byO;obtain⟨v0,v1,v2,v3⟩:=ar4 (x0:=by' p a%64) (x1:=by' p (a+1)%64) (x2:=by' p (a+2)%64) (x3:=31) (Nat.mod_lt _ byO) (Nat.mod_lt _ byO) (Nat.mod_lt _ byO) byO rfl;rw[v0]at s0;rw[v1]at s1;rw[v2]at s2;rw[v3]at s3;have t0:=nB c0;rw[Nat.add_zero]at t0;rw[gK (b:=by' p a) byO s0 c0.2,t0,gK (b:=by' p (a+1)) byO s1 c1.2,nB c1,gK (b:=by' p (a+2)) byO (by rw[show 24*j+6+6=24*j+12 by omega,s2]) c2.2,nB c2,oE byO (by rw[show 24*j+6+6+6=24*j+18 by omega,s3]) (by rw[r3];exact Nat.mod_one _),l3];congr 2;omega
theorem vA{ws W:List Nat}{a a0 j g:Nat}(hk:a0+3*j=W.length)(hc:∀t,t<4->okC p a t)(h:AtW ws W (hd (fo (gA p a 4) 4 (a+4) 18))):lJ ws a0 (g+4) (24*j) (p.take a)=lJ ws a0 g (24*(j+1)) (p.take (a+4)):=by
 have hl:=h.len;have p0:(2:Nat)^(6*(4-4))=1:=by decide
 have c0:=hc 0 byO;have c1:=hc 1 byO;have c2:=hc 2 byO;have c3:=hc 3 byO;have e:hd (fo (gA p a 4) 4 (a+4) 18)=[(64*(64*(64*(by' p a%64)+by' p (a+1)%64)+by' p (a+2)%64)+by' p (a+3)%64)*1/65536,(64*(64*(64*(by' p a%64)+by' p (a+1)%64)+by' p (a+2)%64)+by' p (a+3)%64)*1/256%256,(64*(64*(64*(by' p a%64)+by' p (a+1)%64)+by' p (a+2)%64)+by' p (a+3)%64)*1%256]:=by
  unfold hd fo;rw[p0];simp only[gA,Nat.mul_zero,Nat.zero_add,Nat.add_zero];rfl
 rw[e]at h hl;have b0:=h.wd (i:=0) (by simp);have b1:=h.wd (i:=1) (by simp);have b2:=h.wd (i:=2) (by simp);rw[Nat.add_zero]at b0;replace b0:wd ws W.length=(64*(64*(64*(by' p a%64)+by' p (a+1)%64)+by' p (a+2)%64)+by' p (a+3)%64)*1/65536:=b0;replace b1:wd ws (W.length+1)=(64*(64*(64*(by' p a%64)+by' p (a+1)%64)+by' p (a+2)%64)+by' p (a+3)%64)*1/256%256:=b1;replace b2:wd ws (W.length+2)=(64*(64*(64*(by' p a%64)+by' p (a+1)%64)+by' p (a+2)%64)+by' p (a+3)%64)*1%256:=b2;simp only[ak₀,an₀]at hl;have s0:=Gq (ws:=ws) (a0:=a0) (j:=j);have s1:=Js (ws:=ws) (a0:=a0) (j:=j);have s2:=O9 (ws:=ws) (a0:=a0) (j:=j);have s3:=Ql (ws:=ws) (a0:=a0) (j:=j);rw[hk,b0]at s0;rw[hk,b0,b1]at s1;rw[hk,b1,b2]at s2;rw[hk,b2]at s3;obtain⟨v0,v1,v2,v3⟩:=ar4 (x0:=by' p a%64) (x1:=by' p (a+1)%64) (x2:=by' p (a+2)%64) (x3:=by' p (a+3)%64) (Nat.mod_lt _ byO) (Nat.mod_lt _ byO) (Nat.mod_lt _ byO) (Nat.mod_lt _ byO) rfl;rw[v0]at s0;rw[v1]at s1;rw[v2]at s2;rw[v3]at s3;have t0:=nB c0;rw[Nat.add_zero]at t0;rw[gK (b:=by' p a) byO s0 c0.2,t0,gK (b:=by' p (a+1)) byO s1 c1.2,nB c1,gK (b:=by' p (a+2)) byO (by rw[show 24*j+6+6=24*j+12 by omega,s2]) c2.2,nB c2,gK (b:=by' p (a+3)) byO (by rw[show 24*j+6+6+6=24*j+18 by omega,s3]) c3.2,nB c3];congr 1
def m6(ws:List Nat)(p:List UInt8)(k:Nat)(o:List UInt8):Prop:=∀g,ws.length-k<g->uy ws g k o=.inr p
def Bl(ws:List Nat)(p:List UInt8)(lower:Bool)(s:Nat)(up:Bool)(k a:Nat):Prop:=∀g,ws.length-k<g->∃a' o',kp ws lower g k (s,up,p.take a)=.inr (a',o')/\k<a'/\m6 ws p a' o'
def RdX(ws:List Nat)(p:List UInt8)(k a:Nat):Prop:=∀g,ws.length-k<g->∃a' o',lq ws g k (p.take a)=.inr (a',o')/\k<a'/\m6 ws p a' o'
def RdE(ws:List Nat)(p:List UInt8)(k a:Nat):Prop:=∀a0 j g,a0+3*j=k->8*ws.length+6<=6*g+24*j->∃a' o',lJ ws a0 g (24*j) (p.take a)=.inr (a',o')/\a0<a'/\m6 ws p a' o'
def Rds(ws:List Nat)(p:List UInt8)(st k a:Nat):Prop:=
 if st=0 then m6 ws p k (p.take a) else if st<9 then Bl ws p false ((st-1)%4) (decide (4<=st-1)) k a
 else if st<17 then Bl ws p true ((st-9)%4) (decide (4<=st-9)) k a else if st=17 then RdX ws p k a else RdE ws p k a
theorem OY{first:Nat}{lower:Bool}(h:QK first lower){s:Nat}{up:Bool}(hs:s<4){ws:List Nat}{k a:Nat}:Rds ws p (stV first s up) k a=Bl ws p lower s up k a:=by
 have hx:∃x,x<8/\stV first s up=first+x/\x%4=s/\decide (4<=x)=up:=by
  cases up with
  | true=>exact⟨s+4,byO,by unfold stV ko;simp;omega,byO,by simp⟩
  | false=>exact⟨s,byO,by unfold stV ko;simp,byO,by simp;omega⟩
 obtain⟨x,hx1,hx2,hx3,hx4⟩:=hx;rw[hx2];unfold Rds;rcases h with ⟨rfl,rfl⟩|⟨rfl,rfl⟩
 ·rw[if_neg byO,if_pos byO,show 1+x-1=x by omega,hx3,hx4]
 ·rw[if_neg byO,if_neg byO,if_pos byO,show 9+x-9=x by omega,hx3,hx4]
section
variable {ws W:List Nat}{p:List UInt8}{a:Nat}{o:Opt}
theorem oF{k:Nat}(h:o.run=0):emit p k a o=hd o:=by unfold emit;rw[if_pos h]
theorem lL{k a':Nat}{q q':List UInt8}(h1:k<ws.length)(h2:wd ws k≠129)(h3:tI ws (wd ws k) (k+1) q=.inr (a',q'))(h4:k<a')(h5:m6 ws p a' q'):m6 ws p k q:=by
 intro g hg;obtain⟨g,rfl⟩:∃t,g=t+1:=⟨g-1,byO⟩;rw[uy,if_neg byO,if_neg h2,h3];exact h5 g byO
theorem A5{first s:Nat}{lower up:Bool}(hct:QK first lower)(hs:s<4)(ha:a<=p.length)(ho:o ∈ eg a::tR p first lower (j1 p a s up lower))(h:AtW ws W (hd o))(hr:Rds ws p o.md (W.length+(hd o).length) o.nx):Bl ws p lower s up W.length a:=by
 intro g hg;obtain⟨g,rfl⟩:∃t,g=t+1:=⟨g-1,byO⟩;have hl:=h.len;rcases List.mem_cons.1 ho with rfl|ho
 ·refine⟨W.length+1,p.take a,?_,byO,?_⟩
  ·rw[kp,xl h]
  ·have e:Rds ws p 0 (W.length+1) a=m6 ws p (W.length+1) (p.take a):=rfl
   rw[<-e];exact hr
 ·unfold tR tA qU at ho
  obtain⟨u,hu,ho⟩:=List.mem_flatMap.1 ho;obtain⟨v,hv,ho⟩:=List.mem_flatMap.1 ho;obtain⟨w,hw,rfl⟩:=List.mem_map.1 ho;obtain⟨hu1,_,hu3,hu4⟩:=iI ha u hu;obtain⟨hv1,_,hv3,hv4⟩:=iI hu3 v hv;obtain⟨hw1,_,hw3,hw4⟩:=iI hv3 w hw;have ht:=y7 hu1 hv1 hw1 h;have h2:(hd (me u.v v.v w.v w.a (ko first w))).length=2:=rfl;rw[h2]at hr hl;have hr':Rds ws p (stV first w.s w.u) (W.length+2) w.a:=hr;rw[OY hct byO]at hr';obtain⟨a',o',h3,h4,h5⟩:=hr' g byO;refine⟨a',o',?_,byO,h5⟩;rw[kp,ht];simp only;have hv3':tS lower (s,up,p.take a) (u.v,v.v,w.v)=.inr (w.s,w.u,p.take w.a):=by
   unfold tS;simp only;rw[va hu];simp only;rw[va hv];simp only;exact va hw
  rw[hv3'];exact h3
theorem Ov(ha:a<=p.length)(ho:o ∈ tT p a)(h:AtW ws W (hd o))(hr:Rds ws p o.md (W.length+(hd o).length) o.nx):RdX ws p W.length a:=by
 intro g hg;obtain⟨g,rfl⟩:∃t,g=t+1:=⟨g-1,byO⟩;have hl:=h.len;unfold tT at ho;rcases List.mem_cons.1 ho with rfl|ho
 ·refine⟨W.length+1,p.take a,?_,byO,?_⟩
  ·rw[lq,xl h]
  ·have e:Rds ws p 0 (W.length+1) a=m6 ws p (W.length+1) (p.take a):=rfl
   rw[<-e];exact hr
 ·split at ho
  ·rename_i hc
   obtain⟨c0,c1,c2,c3⟩:=hc;obtain rfl:=List.mem_singleton.1 ho;have q1:=gR (by' p a);have q2:=gR (by' p (a+1));have q3:=gR (by' p (a+2));have ht:=y7 byO byO byO h;have h2:(hd (me (dL (by' p a)-1) (dL (by' p (a+1))-1) (dL (by' p (a+2))-1) (a+3) 17)).length=2:=rfl;rw[h2]at hr hl;have hr':RdX ws p (W.length+2) (a+3):=hr;obtain⟨a',o',h3,h4,h5⟩:=hr' g byO;refine⟨a',o',?_,byO,h5⟩;rw[lq,ht];simp only;rw[tH (pg p a) c1,tH (pg p (a+1)) c2,tH (pg p (a+2)) c3];have e:p.take a++[UInt8.ofNat (by' p a),UInt8.ofNat (by' p (a+1)),UInt8.ofNat (by' p (a+2))]=p.take (a+3):=by
    rw[show a+3=a+2+1 by omega,gP byO,show a+2=a+1+1 by omega,gP (show a+1<p.length by omega),gP (show a<p.length by omega)];simp
   rw[e];exact h3
  ·cases ho
theorem Mc(ha:a<=p.length)(ho:o ∈ tJ p a)(h:AtW ws W (hd o))(hr:Rds ws p o.md (W.length+(hd o).length) o.nx):RdE ws p W.length a:=by
 intro a0 j g hk hg;have hl:=h.len;have hok:=A8 ha o ho;have hz:=hok.sz;have hhl:=lO hz.2;have hg5:3<=o.sz->5<=g:=fun h=>by omega
 rcases A9 4 0 rfl ho with ⟨i,_,hi,hc,rfl⟩|⟨hc,rfl⟩
 ·have hsz:(fo (64*gA p a i+31) (i+1) (a+i) 0).sz=(6*(i+1)+7)/8:=rfl
  rw[hhl,hsz]at hr;have hr':m6 ws p (W.length+(6*(i+1)+7)/8) (p.take (a+i)):=hr;exact⟨_,_,vB hk hi (fun t ht=>hc t byO ht) h byO,byO,hr'⟩
 ·have hsz:(fo (gA p a 4) 4 (a+4) 18).sz=3:=rfl
  have hnx:(fo (gA p a 4) 4 (a+4) 18).nx=a+4:=rfl;rw[hhl,hsz]at hr;have hr':RdE ws p (W.length+3) (a+4):=hr;obtain⟨g,rfl⟩:∃t,g=t+4:=⟨g-4,by have:=hg5 (by rw[hsz];omega);omega⟩;rw[vA hk (fun t ht=>hc t byO ht) h];exact hr' a0 (j+1) g byO byO
theorem Jh{c:List Nat}{st:Nat}(ha:a<=p.length)(hst:st<19)(ho:o ∈ eQ p c a st)(h:AtW ws W (emit p W.length a o))(hr:Rds ws p o.md (W.length+(emit p W.length a o).length) o.nx):Rds ws p st W.length a:=by
 have hok:=jP ha o ho;have hz:=hok.sz;by_cases h0:st=0
 ·subst h0
  show m6 ws p W.length (p.take a);have ho:o ∈ qN p c a:=ho;unfold qN at ho;rcases List.mem_append.1 ho with ho|ho
  ·have hrun:o.run=0:=by
    simp only[jE,List.mem_cons,List.not_mem_nil,or_false]at ho;rcases ho with rfl|rfl|rfl|rfl<;>rfl
   rw[oF hrun]at h hr;have hl:=h.len;have hhl:=lO hz.2;have g0:=h.wd (i:=0) byO;rw[Nat.add_zero]at g0;simp only[jE,List.mem_cons,List.not_mem_nil,or_false]at ho;rcases ho with rfl|rfl|rfl|rfl
   ·have hr':Bl ws p false 0 false (W.length+1) a:=hr
    replace g0:wd ws W.length=230:=g0;obtain⟨a',o',h1,h2,h3⟩:=hr' (ws.length+1) byO;refine lL (by simp only at hhl;omega) byO (a':=a') (q':=o') ?_ byO h3;rw[g0];exact h1
   ·have hr':Bl ws p true 0 false (W.length+1) a:=hr
    replace g0:wd ws W.length=239:=g0;obtain⟨a',o',h1,h2,h3⟩:=hr' (ws.length+1) byO;refine lL (by simp only at hhl;omega) byO (a':=a') (q':=o') ?_ byO h3;rw[g0];exact h1
   ·have hr':RdX ws p (W.length+1) a:=hr
    replace g0:wd ws W.length=238:=g0;obtain⟨a',o',h1,h2,h3⟩:=hr' (ws.length+1) byO;refine lL (by simp only at hhl;omega) byO (a':=a') (q':=o') ?_ byO h3;rw[g0];exact h1
   ·have hr':RdE ws p (W.length+1) a:=hr
    replace g0:wd ws W.length=240:=g0;obtain⟨a',o',h1,h2,h3⟩:=hr' (W.length+1) 0 (2*ws.length+2) byO byO;refine lL (by simp only at hhl;omega) byO (a':=a') (q':=o') ?_ byO h3;rw[g0];exact h1
  ·split at ho
   ·rename_i hap
    have hb:=pg p a;simp only[be₀,List.mem_singleton]at ho;rcases ho with (rfl|ho)|rfl
    ·by_cases h128:by' p a<128
     ·have e:fT (by' p a) a=⟨by' p a+1,0,0,1,0,a+1,0⟩:=by unfold fT;rw[if_pos h128]
      rw[e]at h hr;rw[oF rfl]at h hr;have hl:=h.len;have g0:=h.wd (i:=0) (by simp[hd]);rw[Nat.add_zero]at g0;replace g0:wd ws W.length=by' p a+1:=g0;have hr':m6 ws p (W.length+1) (p.take (a+1)):=hr;replace hl:W.length+1<=ws.length:=hl;refine lL byO byO (a':=W.length+1) (q':=p.take (a+1)) ?_ byO hr';rw[g0];unfold tI;rw[if_pos byO,Nat.add_sub_cancel,gP hap]
     ·have e:fT (by' p a) a=⟨235,by' p a-127,0,2,0,a+1,0⟩:=by unfold fT;rw[if_neg h128]
      rw[e]at h hr;rw[oF rfl]at h hr;have hl:=h.len;have g0:=h.wd (i:=0) (by simp[hd]);have g1:=h.wd (i:=1) (by simp[hd]);rw[Nat.add_zero]at g0;replace g0:wd ws W.length=235:=g0;replace g1:wd ws (W.length+1)=by' p a-127:=g1;have hr':m6 ws p (W.length+2) (p.take (a+1)):=hr;replace hl:W.length+2<=ws.length:=hl;refine lL byO byO (a':=W.length+2) (q':=p.take (a+1)) ?_ byO hr';rw[g0];show upS ws (W.length+1) (p.take a)=_;unfold upS;rw[g1,if_neg byO,if_neg byO,gP hap,show by' p a-127+127=by' p a by omega]
    ·unfold lX at ho
     split at ho
     ·rename_i hc
      obtain⟨c1,c2,c3⟩:=hc;have d1:=jc.1 c2;have d2:=jc.1 c3;obtain rfl:=List.mem_singleton.1 ho;rw[oF rfl]at h hr;have hl:=h.len;have g0:=h.wd (i:=0) (by simp[hd]);rw[Nat.add_zero]at g0;replace g0:wd ws W.length=130+(10*(by' p a-48)+by' p (a+1)-48):=g0;have hr':m6 ws p (W.length+1) (p.take (a+2)):=hr;replace hl:W.length+1<=ws.length:=hl;refine lL byO byO (a':=W.length+1) (q':=p.take (a+2)) ?_ byO hr';rw[g0];unfold tI;rw[if_neg byO,if_pos byO];have e1:48+(130+(10*(by' p a-48)+by' p (a+1)-48)-130)/10=by' p a:=byO;have e2:48+(130+(10*(by' p a-48)+by' p (a+1)-48)-130)%10=by' p (a+1):=byO;rw[e1,e2,show a+2=a+1+1 by omega,gP (show a+1<p.length by omega),gP hap];simp
     ·cases ho
    ·obtain⟨n,h1,h2,e⟩:=nj (cs:=c) (at':=a) (min (p.length-a) 1749) byO
     have e':uj p c a=cX a n:=e;rw[e']at h hr;have hrun:(cX a n).run=n:=by unfold cX;split<;>rfl
     have hzz:1<=(cX a n).sz/\(cX a n).sz<=3:=by unfold cX;split<;>simp
     have hmd:(cX a n).md=0:=by unfold cX;split<;>rfl
     obtain⟨g0,g1,g2⟩:=De h1 byO byO h;rw[xV hzz (by rw[hrun];omega),hmd,nm,hrun]at hr;have hr':m6 ws p (W.length+((cX a n).sz+n)) (p.take (a+n)):=hr;rw[<-Nat.add_assoc]at hr';refine lL g1 byO (a':=W.length+(cX a n).sz+n) (q':=p.take (a+n)) ?_ byO hr';rw[g0];exact g2
   ·cases ho
 ·have hrun:o.run=0:=by
   rcases sL o ho with h|h
   ·exact h
   ·exact absurd h.2.2.2 h0
  rw[oF hrun]at h hr;unfold eQ at ho;rw[if_neg h0]at ho;unfold Rds;rw[if_neg h0];split at ho
  ·rename_i h9
   rw[if_pos h9];exact A5 (first:=1) (.inl ⟨rfl,rfl⟩) (Nat.mod_lt _ (by decide)) ha ho h hr
  ·rename_i h9
   rw[if_neg h9];split at ho
   ·rename_i h17
    rw[if_pos h17];exact A5 (first:=9) (.inr ⟨rfl,rfl⟩) (Nat.mod_lt _ (by decide)) ha ho h hr
   ·rename_i h17
    rw[if_neg h17];split at ho
    ·rename_i h17
     rw[if_pos h17];exact Ov ha ho h hr
    ·rename_i h17
     rw[if_neg h17];exact Mc ha ho h hr
end
theorem Bj{p:List UInt8}{c:List Nat}:∀(f a st:Nat) (W:List Nat),∃r,n8 p c f a st W=W++r
 | 0,a,st,W=>⟨[],by simp[n8]⟩
 | f+1,a,st,W=>by
  rw[n8];split
  ·exact⟨[],by simp⟩
  ·obtain⟨r,hr⟩:=Bj (p:=p) (c:=c) f (chs p c a st).nx (chs p c a st).md (W++emit p W.length a (chs p c a st))
   exact⟨_,by rw[hr,ba₀]⟩
def ME(ws R:List Nat):Prop:=∃t,ws=R++t/\(t=[]\/∃t',t=129::t')
theorem GX{ws:List Nat}{p:List UInt8}{c:List Nat}(hs:Sol p c):∀(f a st:Nat) (W:List Nat),a<=p.length->st<19->cst c a st<1073741824->cst c a st<f->ME ws (n8 p c f a st W)->Rds ws p st W.length a
 | 0,a,st,W,ha,hst,hc,hf,ht=>by omega
 | f+1,a,st,W,ha,hst,hc,hf,ht=>by
  rw[n8]at ht;split at ht
  ·rename_i hfin
   obtain⟨rfl,rfl⟩:=hfin;show m6 ws p W.length (p.take p.length);rw[List.take_length];obtain⟨t,rfl,ht⟩:=ht;intro g hg;rcases ht with rfl|⟨t',rfl⟩
   ·cases g with
    | zero=>rfl
    | succ g=>rw[uy,if_pos (by simp)]
   ·obtain⟨g,rfl⟩:∃q,g=q+1:=⟨g-1,byO⟩
    rw[uy,if_neg (by simp),if_pos (by simp[wd,au₀])]
  ·rename_i hfin
   obtain⟨hm,htot⟩:=uu hs ha hst hc hfin;have hok:=jP ha _ hm;have e:bh c (chs p c a st)=(chs p c a st).sz+(chs p c a st).run+cst c (chs p c a st).nx (chs p c a st).md:=rfl;have hz:=hok.sz;have ih:=GX hs f _ _ _ hok.nx.2 hok.md byO byO ht;obtain⟨t,ht,_⟩:=ht;obtain⟨r,hr⟩:=Bj (p:=p) (c:=c) f (chs p c a st).nx (chs p c a st).md (W++emit p W.length a (chs p c a st));rw[hr]at ht;rw[as₀]at ih;exact Jh ha hst hm ⟨r++t,by rw[ht,ba₀]⟩ ih
theorem IC{ws:List Nat}{c:List Nat}(hs:Sol p c)(hp:p.length<=4096)(ht:ME ws (oG p c)):IB ws=.inr p:=by
 have hc:=lC hs p.length 0 byO;have h:=GX hs _ 0 0 [] (Nat.zero_le _) byO byO byO ht;have h':m6 ws p 0 []:=by simpa[Rds]using h
 exact h' _ byO
theorem mk_le:∀(k:Nat) (l:List Nat),∀x ∈ mk k l,x<=255
 | k,y::l,x,h=>by
  simp only[mk]at h;rcases List.mem_cons.1 h with rfl|h
  ·omega
  ·exact mk_le (k+1) l x h
theorem QI{o:Opt}(h:o.h0<=255/\o.h1<=255/\o.h2<=255):∀x ∈ hd o,x<=255:=by
 intro x hx;have:=List.mem_of_mem_take hx;simp only[List.mem_cons,List.not_mem_nil,or_false]at this;rcases this with rfl|rfl|rfl<;>omega
theorem IQ{k a:Nat}{o:Opt}(h:o.h0<=255/\o.h1<=255/\o.h2<=255):∀x ∈ emit p k a o,x<=255:=by
 intro x hx;unfold emit at hx;split at hx
 ·exact QI h x hx
 ·rcases List.mem_cons.1 hx with rfl|hx
  ·exact h.1
  ·exact mk_le _ _ x hx
theorem HT{p:List UInt8}{c:List Nat}(hs:Sol p c):∀(f a st:Nat) (W:List Nat),a<=p.length->st<19->cst c a st<1073741824->(∀x ∈ W,x<=255)->∀x ∈ n8 p c f a st W,x<=255
 | 0,a,st,W,ha,hst,hc,hW=>hW
 | f+1,a,st,W,ha,hst,hc,hW=>by
  rw[n8];split
  ·exact hW
  ·rename_i hfin
   obtain⟨hm,ht⟩:=uu hs ha hst hc hfin;have hok:=jP ha _ hm;have e:bh c (chs p c a st)=(chs p c a st).sz+(chs p c a st).run+cst c (chs p c a st).nx (chs p c a st).md:=rfl;refine HT hs f _ _ _ hok.nx.2 hok.md byO fun x hx=>?_;rcases List.mem_append.1 hx with hx|hx
   ·exact hW x hx
   ·exact IQ hok.h x hx
theorem Me{c:List Nat}(hs:Sol p c)(hp:p.length<=4096):∀x ∈ oG p c,x<=255:=by
 have:=lC hs p.length 0 byO;exact HT hs _ _ _ _ (Nat.zero_le _) byO byO (by simp)
abbrev zI(l:List Nat):List Int:=l.map (fun i:Nat=>(i:Int))
theorem Ow(l:List Nat):(zI l).map Int.toNat=l:=by
 rw[List.map_map];have:(Int.toNat ∘ fun i:Nat=>(i:Int))=id:=by funext i;simp
 rw[this,List.map_id]
theorem Lg{l:List Nat}(h:∀x ∈ l,x<=255):oz (zI l)=true:=by
 unfold oz;rw[List.all_eq_true];intro x hx;obtain⟨y,hy,rfl⟩:=List.mem_map.1 hx;have:=h y hy;simp;omega
theorem JY{k i:Nat}:yF k i<=254:=by
 unfold yF;split
 ·omega
 ·split<;>omega
def zr(l:List Nat)(m:Nat):List Nat:=l++(List.range m).map fun j=>yF l.length (l.length+j)
theorem JX(l:List Nat)(m:Nat):gu (zI l) m=zI (zr l m):=by
 unfold gu zr zI;rw[List.map_append,List.map_map,ay₀];rfl
theorem BQ{l:List Nat}{m:Nat}(h:∀x ∈ l,x<=255):∀x ∈ zr l m,x<=255:=by
 intro x hx;rcases List.mem_append.1 hx with hx|hx
 ·exact h x hx
 ·obtain⟨j,_,rfl⟩:=List.mem_map.1 hx
  have:=JY (k:=l.length) (i:=l.length+j);omega
theorem Ck(l:List Nat)(m:Nat):ME (zr l m) l:=by
 refine⟨_,rfl,?_⟩;cases m with
 | zero=>exact .inl rfl
 | succ m=>
  refine .inr ⟨(List.map Nat.succ (List.range m)).map fun j=>yF l.length (l.length+j),?_⟩;rw[List.range_succ_eq_map,ag₀];have:yF l.length (l.length+0)=129:=by unfold yF;rw[if_pos byO]
  rw[this]
theorem JZ{l:List Nat}{m:Nat}(h:∀x ∈ l,x<=255)(hl:l.length+m<=8192):Cj (zI l) ((l.length:Int)+(m:Nat))=.inr (gu (zI l) m):=by
 unfold Cj;rw[Lg h,if_neg (by decide),if_neg byO,if_neg (by simp;omega)];congr 2;simp;omega
theorem M9{l:List Nat}(h:∀x ∈ l,x<=255)(hl:l.length<=8192)(hd:IB l=.inr p):CE (zI l)=.inr p:=by
 unfold CE;rw[Lg h,if_neg (by decide),if_neg (by simp;omega),Ow];exact hd
theorem EK{c:List Nat}(hs:Sol p c)(h1:1<=p.length)(h2:p.length<=1749):cst c 0 0<=p.length+(if p.length<250 then 2 else 3):=by
 have hm:=JU (p:=p) (a:=0) (n:=p.length) h1 h2 byO;have e:(cX 0 p.length).sz=(if p.length<250 then 2 else 3)/\(cX 0 p.length).run=p.length/\(cX 0 p.length).md=0:=by unfold cX;split<;>simp
 have hp:=Pth.cons (p:=p) (a:=0) (st:=0) (m:=0) (Nat.zero_le _) byO hm (by rw[nm,e.2.2,Nat.zero_add];exact .nil);have:=Hu hs hp;rw[e.1,e.2.1]at this;omega
theorem EL{c:List Nat}(hs:Sol p c)(h:p.length=0):cst c 0 0=0:=by
 have:=(hs.row p.length (Nat.le_refl _)).fin rfl;rw[h]at this;exact this
end Go.Proofs.YtmnlgdpdgjbfgaaGreat
