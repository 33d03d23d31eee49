/- Lemmas. -/
import Derived.Test.YtmnlgdpdgjbfgaaGreatL39
set_option linter.all false
namespace Go.Proofs.YtmnlgdpdgjbfgaaGreat
open Go.Abs
variable{H:Heap}{v:Value}{p:List UInt8}
set_option maxRecDepth 20000
theorem y5{a b c:RS}(h:dG a b=true)(g:dG b c=true):dG a c=true:=by
 unfold dG at *;repeat' split at h
 all_goals (repeat' split at g)
 all_goals (repeat' split)
 all_goals (simp only[af₀]at *;omega)
theorem vc{C:List Nat}{t:Nat}:∀(L D:List RS) (s:RS×Bool),
  ((s.2=false/\∀x ∈ D,dk C x≠t)\/(s.2=true/\s.1 ∈ D/\dk C s.1=t/\∀y ∈ D,dk C y=t->dG y s.1=false)) ->
  (((L.foldl (chS C t) s).2=false/\∀x ∈ D++L,dk C x≠t)\/((L.foldl (chS C t) s).2=true/\(L.foldl (chS C t) s).1 ∈ D++L/\dk C (L.foldl (chS C t) s).1=t/\∀y ∈ D++L,dk C y=t->dG y (L.foldl (chS C t) s).1=false))
 | [],D,s,h=>by simpa using h
 | x::L,D,s,h=>by
  have ir:dG x x=false:=by simp[dG]
  have key:(((chS C t s x).2=false/\∀y ∈ D++[x],dk C y≠t)\/((chS C t s x).2=true/\(chS C t s x).1 ∈ D++[x]/\dk C (chS C t s x).1=t/\∀y ∈ D++[x],dk C y=t->dG y (chS C t s x).1=false)):=by
   unfold chS;by_cases ht:dk C x=t
   ·by_cases hb:s.2=false\/dG x s.1=true
    ·rw[if_pos ⟨ht,hb⟩]
     refine .inr ⟨rfl,by simp,ht,fun y hy hyt=>?_⟩;rcases List.mem_append.1 hy with hy|hy
     ·rcases h with ⟨h1,h2⟩|⟨h1,h2,h3,h4⟩
      ·exact absurd hyt (h2 y hy)
      ·rcases hb with hb|hb
       ·rw[h1]at hb;cases hb
       ·cases hl:dG y x with
        | false=>rfl
        | true=>
         have:=y5 hl hb;rw[h4 y hy hyt]at this;cases this
     ·obtain rfl:=List.mem_singleton.1 hy
      exact ir
    ·rw[if_neg (fun h=>hb h.2)]
     rcases h with ⟨h1,h2⟩|⟨h1,h2,h3,h4⟩
     ·exact absurd (.inl h1) hb
     ·refine .inr ⟨h1,List.mem_append_left _ h2,h3,fun y hy hyt=>?_⟩
      rcases List.mem_append.1 hy with hy|hy
      ·exact h4 y hy hyt
      ·obtain rfl:=List.mem_singleton.1 hy
       exact Bool.eq_false_iff.2 fun e=>hb (.inr e)
   ·rw[if_neg (fun h=>ht h.1)]
    rcases h with ⟨h1,h2⟩|⟨h1,h2,h3,h4⟩
    ·refine .inl ⟨h1,fun y hy=>?_⟩
     rcases List.mem_append.1 hy with hy|hy
     ·exact h2 y hy
     ·obtain rfl:=List.mem_singleton.1 hy
      exact ht
    ·refine .inr ⟨h1,List.mem_append_left _ h2,h3,fun y hy hyt=>?_⟩
     rcases List.mem_append.1 hy with hy|hy
     ·exact h4 y hy hyt
     ·obtain rfl:=List.mem_singleton.1 hy
      exact absurd hyt ht
  have:=vc L (D++[x]) (chS C t s x) key;simpa using this
def qc(p:List UInt8)(n:RN):Prop:=n.m=0/\n.i=p.length
theorem jx{C:List Nat}{n:RN}(h:SolR p C)(hn:n.ok p.length)(hf:C.getD (eD n) 0<1099511627776)(he:¬ qc p n) :
  dQ p n C ∈ bW p n/\dk C (dQ p n C)=C.getD (eD n) 0/\∀y ∈ bW p n,dk C y=C.getD (eD n) 0->dG y (dQ p n C)=false:=by
 have hc:=vc (C:=C) (t:=C.getD (eD n) 0) (bW p n) [] (fV,false) (.inl ⟨rfl,by simp⟩);rw[List.nil_append]at hc;rcases hc with ⟨_,h2⟩|⟨_,h2,h3,h4⟩
 ·exfalso
  have e:=h.eq n hn;rcases zT (p:=p) (n:=n) (C:=C)with g|⟨x,hx,g⟩
  ·rw[<-e]at g
   unfold mK at g;rw[if_neg (show ¬ (n.m=0/\n.i=p.length) from he)]at g;omega
  ·exact h2 x hx (by rw[e,g])
 ·exact⟨h2,h3,h4⟩
theorem eJ{p:List UInt8}{n:RN}{x:RS}:∀k,k<=40->x ∈ dZ p n k->(x=⟨254,-1,-1,1,⟨n.i,0,0,0,false⟩⟩/\n.ph=0)\/∃v t,v<k/\dH p n v=some t/\x=⟨v,-1,-1,if n.ph=0 then 2 else 0,t⟩
 | 0,_,hx=>by
  unfold dZ at hx;split at hx
  ·rename_i h
   exact .inl ⟨List.mem_singleton.1 hx,h⟩
  ·cases hx
 | k+1,hk,hx=>by
  unfold dZ at hx;rcases List.mem_append.1 hx with hx|hx
  ·rcases eJ k byO hx with h|⟨v,t,h1,h2,h3⟩
   ·exact .inl h
   ·exact .inr ⟨v,t,byO,h2,h3⟩
  ·cases hu:dH p n k with
   | none=>rw[hu]at hx;cases hx
   | some t=>
    rw[hu]at hx;exact .inr ⟨k,t,byO,hu,List.mem_singleton.1 hx⟩
theorem sL{n t:RN}{v:Nat}(h:dH p n v=some t):t.m=n.m/\t.ph=(n.ph+1)%3:=by
 unfold dH at h;repeat' split at h
 all_goals cases h
 all_goals exact⟨rfl,rfl⟩
def StA(p:List UInt8)(n:RN)(x:RS):Prop:=(∃d,(1<=d/\d<=1749)/\n.i+d<=p.length/\x=cV n.i d)\/(x.w≠231/\x.t=-1/\x.to.ph=0/\((x.s=-1/\x.c=1)\/(∃d:Nat,d<=255/\x.s=(d:Int)/\x.c=2)))
theorem jY{n:RN}{x:RS}(hn:n.ok p.length)(hx:x ∈ cm p n.i):StA p n x:=by
 have hi:=hn.i;unfold cm at hx;simp only[bd₀]at hx;rcases hx with (((hx|hx)|hx)|hx)|hx
 ·unfold gZ at hx
  split at hx
  ·rename_i hc
   obtain⟨h1,h2,h3⟩:=hc;have h2:=cz.1 h2;have h3:=cz.1 h3;obtain rfl:=List.mem_singleton.1 hx;exact .inr ⟨by simp only;omega,rfl,rfl,.inl ⟨rfl,rfl⟩⟩
  ·cases hx
 ·unfold nh at hx
  split at hx
  ·obtain rfl:=List.mem_singleton.1 hx
   exact .inr ⟨by simp only;omega,rfl,rfl,.inl ⟨rfl,rfl⟩⟩
  ·cases hx
 ·unfold j8 at hx
  split at hx
  ·have:=pF p n.i
   obtain rfl:=List.mem_singleton.1 hx;exact .inr ⟨by simp,rfl,rfl,.inr ⟨_,byO,rfl,rfl⟩⟩
  ·cases hx
 ·unfold kf at hx
  obtain⟨j,hj,rfl⟩:=List.mem_map.1 hx;have:=List.mem_range.1 hj;refine .inr ⟨?_,rfl,rfl,.inl ⟨rfl,rfl⟩⟩;have:j=0\/j=1\/j=2\/j=3:=byO;rcases this with rfl|rfl|rfl|rfl<;>simp[wX]
 ·unfold jK at hx
  obtain⟨j,hj,rfl⟩:=List.mem_map.1 hx;have:=List.mem_range.1 hj;exact .inl ⟨j+1,byO,byO,rfl⟩
theorem kr{n:RN}{x:RS}(hx:x ∈ qb p n):x.c=mG n/\((x=⟨31,-1,-1,mG n,asR n.i⟩)\/((n.i<p.length/\32<=by' p n.i/\by' p n.i<=94)/\x=⟨by' p n.i%64,-1,-1,mG n,⟨n.i+1,4,(n.ph+1)%4,0,false⟩⟩)):=by
 unfold qb at hx;rcases List.mem_append.1 hx with hx|hx
 ·obtain rfl:=List.mem_singleton.1 hx
  exact⟨rfl,.inl rfl⟩
 ·split at hx
  ·rename_i h
   obtain rfl:=List.mem_singleton.1 hx;exact⟨rfl,.inr ⟨h,rfl⟩⟩
  ·cases hx
def rkR(n:RN):Nat:=if n.m=0 then 0 else if n.m=4 then(if n.ph=3 then 1 else 0) else(if n.ph=0 then 0 else 3-n.ph)
def mea(C:List Nat)(n:RN):Nat:=4*C.getD (eD n) 0+rkR n
def oD(p:List UInt8)(W:List Nat)(i:Nat):Nat->List Nat
 | 0=>W
 | k+1=>oD p W i k++[(by' p (i+k)+msk (oD p W i k).length)%256]
theorem oF(p:List UInt8)(W:List Nat)(i:Nat):∀k,(oD p W i k).length=W.length+k
 | 0=>rfl
 | k+1=>by simp[oD,oF p W i k];omega
def CD(x:RS)(W:List Nat):List Nat:=W++[(x.s.toNat+msk W.length)%256]
def sF(x:RS)(W:List Nat):List Nat:=if 0<=x.t then W++[(x.t.toNat+msk W.length)%256] else W
def trR(Pt:List Nat)(w:Nat):Nat:=1600*Pt.getD 0 0+40*Pt.getD 1 0+w+1
def di(p:List UInt8)(n:RN)(x:RS)(W Pt:List Nat):List Nat×List Nat:=
 if n.m=0 then
  if x.w=231 then(oD p (sF x (CD x (W++[231]))) n.i (x.to.i-n.i),Pt)
  else(W++[x.w]++if 0<=x.s then[x.s.toNat] else[],Pt)
 else if n.m=4 then if x.w=31 then(W++cE (Pt++[31]),[]) else(W,Pt++[x.w])
 else if x.w=254 then(W++[254],Pt)
 else if Pt.length=2 then(W++[trR Pt x.w/256,trR Pt x.w%256],[]) else(W,Pt++[x.w])
def ku(p:List UInt8)(C:List Nat):Nat->RN->List Nat->List Nat->List Nat
 | 0,_,W,_=>W
 | f+1,n,W,Pt=>if n.m≠0\/n.i<p.length then ku p C f (dQ p n C).to (di p n (dQ p n C) W Pt).1 (di p n (dQ p n C) W Pt).2 else W
structure InvR (p:List UInt8)(C:List Nat)(B:Nat)(n:RN)(W Pt:List Nat):Prop where
 ok:n.ok p.length
 fin:C.getD (eD n) 0<1099511627776
 pt0:n.m=0->Pt=[]
 pt3:1<=n.m/\n.m<=3->Pt.length=n.ph
 ptv:∀k,Pt.getD k 0<64
 sz:W.length+Pt.length+2*mea C n<=B
theorem og(l:List Nat):(cE l).length=(6*l.length+7)/8:=qB _ _
theorem lR{l:List Nat}{x B:Nat}(h:∀k,l.getD k 0<B)(hx:x<B):∀k,(l++[x]).getD k 0<B:=by
 intro k;by_cases hk:k<l.length
 ·have:=h k
  simp only[au₀]at this ⊢;rw[ax₀ hk];exact this
 ·rw[au₀,aw₀ byO]
  by_cases e:k-l.length=0
  ·rw[e];simpa using hx
  ·rw[av₀ (by simp;omega)];simp;omega
theorem sA{C:List Nat}{n:RN}{x:RS}(hn:n.ok p.length)(hx:x ∈ bW p n)(ht:dk C x=C.getD (eD n) 0):mea C x.to<mea C n/\mea C x.to+4*x.c<=mea C n+rkR x.to:=by
 have hi:dk C x=x.c+C.getD (eD x.to) 0:=rfl;rw[hi]at ht;obtain⟨h3,h4,h5⟩:=hn.ph;have h2:=hn.m;refine⟨?_,by unfold mea;omega⟩;have hr:rkR x.to<=3:=by unfold rkR;split<;>(try split)<;>(try split)<;>omega
 unfold mea;by_cases hc:1<=x.c
 ·omega
 ·have hc0:x.c=0:=byO
  suffices rkR x.to<rkR n by omega
  unfold bW at hx;split at hx
  ·rcases jY hn hx with ⟨d,_,_,rfl⟩|⟨_,_,_,⟨_,h⟩|⟨_,_,_,h⟩⟩
   ·exfalso;unfold cV at hc0;split at hc0<;>simp at hc0
   ·omega
   ·omega
  ·rename_i hm0
   split at hx
   ·rename_i hm4
    have:=h4 hm4;rcases eJ 40 byO hx with ⟨rfl,_⟩|⟨v,t,_,hu,rfl⟩
    ·cases hc0
    ·obtain⟨e1,e2⟩:=sL hu
     have hph:n.ph≠0:=fun e=>by simp[e]at hc0
     simp only;unfold rkR;rw[e1,e2,if_neg hm0,if_neg hm4,if_neg hm0,if_neg hm4,if_neg hph];have:n.ph=1\/n.ph=2:=byO;rcases this with e|e<;>rw[e]<;>decide
   ·rename_i hm4
    have hm4:n.m=4:=Decidable.not_not.1 hm4;obtain⟨hcc,hx⟩:=kr hx;have hp3:n.ph=3:=by
     unfold mG at hcc;split at hcc
     ·assumption
     ·omega
    have hrn:rkR n=1:=by unfold rkR;rw[if_neg hm0,if_pos hm4,if_pos hp3]
    rw[hrn];rcases hx with rfl|⟨_,rfl⟩
    ·exact Nat.zero_lt_one
    ·simp only[rkR,hp3];decide
theorem Ds{C:List Nat}{B:Nat}{n:RN}{x:RS}{W Pt:List Nat}(h:InvR p C B n W Pt)(hx:x ∈ bW p n)(ht:dk C x=C.getD (eD n) 0):InvR p C B x.to (di p n x W Pt).1 (di p n x W Pt).2:=by
 obtain⟨hn,hf,g0,g3,gv,gs⟩:=h;have hok:=(lu hn x hx).to;obtain⟨hm1,hm2⟩:=sA hn hx ht;have hi:dk C x=x.c+C.getD (eD x.to) 0:=rfl;have hfx:C.getD (eD x.to) 0<1099511627776:=byO;obtain⟨h3,h4,h5⟩:=hn.ph;have h2:=hn.m;unfold bW at hx;unfold di;by_cases hm0:n.m=0
 ·rw[if_pos hm0]at hx
  rw[if_pos hm0];have hp:=g0 hm0;subst hp;rcases jY hn hx with ⟨d,hd,hdl,rfl⟩|⟨hw,_,hph,hs⟩
  ·have hw:(cV n.i d).w=231:=by unfold cV;split<;>rfl
   have hto:(cV n.i d).to=asR (n.i+d):=by unfold cV;split<;>rfl
   rw[if_pos hw];have hrk:rkR (cV n.i d).to=0:=by rw[hto];rfl
   refine⟨hok,hfx,fun _=>rfl,fun e=>?_,gv,?_⟩
   ·rw[hto]at e;simp[asR]at e
   ·have hl:(sF (cV n.i d) (CD (cV n.i d) (W++[231]))).length+d<=W.length+(cV n.i d).c:=by
     unfold sF CD cV;split
     ·simp;omega
     ·rw[if_pos (by simp only;omega)];simp;omega
    have hdd:(cV n.i d).to.i-n.i=d:=by rw[hto];simp[asR]
    simp only[oF,hdd,an₀]at gs ⊢;omega
  ·rw[if_neg hw]
   have hrk:rkR x.to=0:=by unfold rkR;rw[hph];simp
   refine⟨hok,hfx,fun _=>rfl,fun e=>by rw[hph];rfl,gv,?_⟩;rcases hs with ⟨hs,hc⟩|⟨d,_,hs,hc⟩
   ·rw[hs]
    simp at gs ⊢;omega
   ·rw[hs,if_pos byO]
    simp at gs ⊢;omega
 ·rw[if_neg hm0]at hx
  rw[if_neg hm0];by_cases hm4:n.m=4
  ·rw[if_neg byO]at hx
   rw[if_pos hm4];obtain⟨hcc,hx⟩:=kr hx;rcases hx with rfl|⟨⟨e1,e2,e3⟩,rfl⟩
   ·simp only[if_true]
    refine⟨hok,hfx,fun _=>rfl,fun e=>rfl,by simp,?_⟩;simp only[as₀,og,ak₀,an₀];simp only at hm1;omega
   ·simp only
    rw[if_neg byO];refine⟨hok,hfx,fun e=>by simp at e,fun e=>by simp at e,lR gv byO,?_⟩;simp only[as₀,ak₀,an₀];simp only at hm1;omega
  ·rw[if_pos hm4]at hx
   rw[if_neg hm4];have hp3:=g3 byO;rcases eJ 40 byO hx with ⟨rfl,hph⟩|⟨v,t,hv,hu,rfl⟩
   ·simp only[if_true]
    have hpn:Pt=[]:=List.eq_nil_of_length_eq_zero byO;subst hpn;refine⟨hok,hfx,fun _=>rfl,fun e=>by simp at e,gv,?_⟩;simp only at hm1;simp only[as₀,ak₀,an₀]at gs ⊢;omega
   ·obtain⟨e1,e2⟩:=sL hu
    simp only at hm1 hm2 hfx hok ⊢;rw[if_neg byO];by_cases hl:Pt.length=2
    ·rw[if_pos hl]
     refine⟨hok,hfx,fun _=>rfl,fun e=>?_,by simp,?_⟩
     ·rw[e2];simp only[an₀];omega
     ·simp only[as₀,ak₀,an₀]
      omega
    ·rw[if_neg hl]
     have:=h4 hm4;refine⟨hok,hfx,fun e=>byO,fun e=>?_,lR gv byO,?_⟩
     ·rw[e2];simp only[as₀,ak₀,an₀];omega
     ·simp only[as₀,ak₀,an₀]
      omega
theorem HN{i:Nat}(hi:i<p.length):∃x ∈ cm p i,x.c<=2/\x.to=asR (i+1):=by
 unfold cm;by_cases h:by' p i<128
 ·refine⟨⟨by' p i+1,-1,-1,1,asR (i+1)⟩,?_,by simp,rfl⟩
  simp only[bd₀];refine .inl (.inl (.inl (.inr ?_)));unfold nh;rw[if_pos ⟨hi,h⟩];simp
 ·refine⟨⟨235,(by' p i-127:Nat),-1,2,asR (i+1)⟩,?_,by simp,rfl⟩
  simp only[bd₀];refine .inl (.inl (.inr ?_));unfold j8;rw[if_pos ⟨hi,byO⟩];simp
theorem lP{p:List UInt8}{C:List Nat}(h:SolR p C):∀m i,i+m=p.length->C.getD (eD (asR i)) 0<=2*m
 | 0,i,e=>by
  rw[h.eq _ (fY byO)];refine Nat.le_trans pf ?_;unfold mK;rw[if_pos ⟨rfl,by simp only[asR];omega⟩];omega
 | m+1,i,e=>by
  have h3:=lP h m (i+1) byO;obtain⟨x,hx,hc,hto⟩:=HN (p:=p) (i:=i) byO;rw[h.eq _ (fY byO)];have:=oQ (p:=p) (n:=asR i) (C:=C) (x:=x) (by unfold bW;rw[if_pos (show(asR i).m=0 from rfl)];exact hx);have ht:dk C x=x.c+C.getD (eD x.to) 0:=rfl;rw[hto]at ht;omega
theorem B0{C:List Nat}(h:SolR p C)(hl:p.length<=4096):InvR p C 70000 (asR 0) [] []:=by
 have:=lP h p.length 0 byO;refine⟨fY byO,byO,fun _=>rfl,fun e=>rfl,by simp,?_⟩;have:rkR (asR 0)=0:=rfl;unfold mea;simp only[an₀];omega
structure StE (lo nb xb:Nat)(G H:Heap)(n:RN)(x:RS)(w q:Value)(W Pt:List Nat):Prop where
 ext:Ext G H
 gn:H.get nb=some (rnC n)
 gx:H.get xb=some (rsC x)
 lb:lo<=G.length
 nn:G.length<=nb/\G.length<=xb/\nb≠xb
 tw:∃bw bq,(G.length<=bw/\G.length<=bq)/\(Own lo 1 H w bw (uN W)/\Own lo 1 H q bq (uN Pt))/\(W≠[]->bw≠nb/\bw≠xb)/\(Pt≠[]->bq≠nb/\bq≠xb)/\(W≠[]->Pt≠[]->bw≠bq)
theorem nu{lo b:Nat}(h:Own lo 1 H v b (uN [])):v=.slice none 0 0:=by
 obtain⟨_,⟨h,_⟩|⟨n,h0,h1,_⟩⟩:=h
 ·exact h
 ·simp at h1;omega
theorem oe{lo b:Nat}{W:List Nat}(h:Own lo 1 H v b (uN W))(hW:W≠[]):b<H.length:=by
 obtain⟨_,⟨_,h⟩|⟨n,h0,h1,_,hg⟩⟩:=h
 ·exact absurd (List.map_eq_nil_iff.1 h) hW
 ·exact Heap.get_lt hg
theorem Eb{lo b:Nat}{W:List Nat}(h:Own lo 1 H v b (uN W)):∃a,v=.slice a W.length W.length:=by
 obtain⟨a,n,rfl,h1,_⟩:=h.len byO;have:n=W.length:=by simpa using h1
 subst this;exact⟨a,rfl⟩
section
variable {lo nb xb:Nat}{G H:Heap}{n:RN}{x:RS}{w q:Value}{W Pt:List Nat}
theorem StE.mono{H':Heap}(h:StE lo nb xb G H n x w q W Pt)(e:Ext H H'):StE lo nb xb G H' n x w q W Pt:=by
 obtain⟨bw,bq,h1,⟨h2,h3⟩,h4⟩:=h.tw;exact⟨h.ext.trans e,e.get h.gn,e.get h.gx,h.lb,h.nn,bw,bq,h1,⟨h2.mono e,h3.mono e⟩,h4⟩
theorem StE.swap(h:StE lo nb xb G H n x w q W Pt):StE lo nb xb G H n x q w Pt W:=by
 obtain⟨bw,bq,h1,⟨h2,h3⟩,h4,h5,h6⟩:=h.tw;exact⟨h.ext,h.gn,h.gx,h.lb,h.nn,bq,bw,⟨h1.2,h1.1⟩,⟨h3,h2⟩,h5,h4,fun a b e=>h6 b a e.symm⟩
theorem StE.sl(h:StE lo nb xb G H n x w q W Pt):∃a,w=.slice a W.length W.length:=by
 obtain⟨bw,bq,h1,⟨h2,h3⟩,h4⟩:=h.tw;exact Eb h2
theorem StE.nil(h:StE lo nb xb G H n x w q W Pt):StE lo nb xb G H n x w (.slice none 0 0) W []:=by
 obtain⟨bw,bq,h1,⟨h2,h3⟩,h4,h5,h6⟩:=h.tw;have:=h.lb;exact⟨h.ext,h.gn,h.gx,h.lb,h.nn,bw,bq,h1,⟨h2,Own.nil byO⟩,h4,fun e=>absurd rfl e,fun _ e=>absurd rfl e⟩
theorem StE.node{n':RN}(h:StE lo nb xb G H n x w q W Pt){H':Heap}(hk:Keep nb H H')(hg:H'.get nb=some (rnC n')):StE lo nb xb G H' n' x w q W Pt:=by
 obtain⟨bw,bq,h1,⟨h2,h3⟩,h4,h5,h6⟩:=h.tw;refine⟨hk.ext h.ext h.nn.1,hg,hk.get h.gx (fun e=>h.nn.2.2 e.symm),h.lb,h.nn,bw,bq,h1,⟨?_,?_⟩,h4,h5,h6⟩
 ·by_cases e:W=[]
  ·subst e
   rw[nu h2];exact Own.nil h2.1
  ·exact h2.keep hk (h4 e).1
 ·by_cases e:Pt=[]
  ·subst e
   rw[nu h3];exact Own.nil h3.1
  ·exact h3.keep hk (h5 e).1
theorem StE.appW{cp:FuncId->Option CF}{z:List Value}{t o d m:Nat}{sp:Option Nat}{L:List Nat}{X:List Value}{R:Value->Heap->Prop}(h:StE lo nb xb G H n x w q W Pt)(ht:H.get t=some X)(hX:(X.drop o).take d=uN L)(hd:0<d/\d<=1000000)(hL:L.length=d)(hoX:o+d<=X.length)(hW:W.length<=1000000)
  (k:∀w' H',StE lo nb xb G H' n x w' q (W++L) Pt->H.length<=H'.length->R w' H'):wpH cp lo (.app 1 z) [w,.slice (some ⟨t,o,sp⟩) d m] H R:=by
 obtain⟨bw,bq,g1,⟨g2,g3⟩,g4,g5,g6⟩:=h.tw;have hlo:=h.lb;have hx:=h.ext.1;have hnl:=Heap.get_lt h.gn;have hxl:=Heap.get_lt h.gx;have hnn:=h.nn;obtain⟨b0,hb0,hb1,hb2⟩:∃b0,Own lo 1 H w b0 (uN W)/\(W=[]->b0=H.length+1)/\(W≠[]->b0=bw):=by
  by_cases e:W=[]
  ·subst e
   rw[nu g2];exact⟨H.length+1,Own.nil byO,fun _=>rfl,fun e=>absurd rfl e⟩
  ·exact⟨bw,g2,fun h=>absurd h e,fun _=>rfl⟩
 refine mD hb0 byO byO hd.1 (by simp only[ay₀];omega) ht byO (c:=uN L) (by rw[Nat.mul_one];exact hX) (PI L) ?_;intro v' H' ho' hk hl;refine k v' H' ⟨?_,?_,?_,hlo,hnn,H.length,bq,⟨byO,g1.2⟩,⟨by rw[uN,List.map_append];exact ho',?_⟩,fun _=>⟨byO,byO⟩,g5,fun _ e=>?_⟩ byO
 ·refine hk.ext h.ext ?_
  by_cases e:W=[]
  ·rw[hb1 e];omega
  ·rw[hb2 e];exact g1.1
 ·refine hk.get h.gn ?_
  by_cases e:W=[]
  ·rw[hb1 e];omega
  ·rw[hb2 e];exact fun a=>(g4 e).1 a.symm
 ·refine hk.get h.gx ?_
  by_cases e:W=[]
  ·rw[hb1 e];omega
  ·rw[hb2 e];exact fun a=>(g4 e).2 a.symm
 ·by_cases e2:Pt=[]
  ·subst e2
   rw[nu g3];exact Own.nil g3.1
  ·refine g3.keep hk ?_
   have:=oe g3 e2;by_cases e:W=[]
   ·rw[hb1 e];omega
   ·rw[hb2 e];exact fun a=>g6 e e2 a.symm
 ·have:=oe g3 e
  omega
theorem StE.litW{cp:FuncId->Option CF}{z:List Value}{d:Nat}{L:List Nat}{R:Value->Heap->Prop}(h:StE lo nb xb G H n x w q W Pt)(hL:L.length=d)(hd:0<d/\d<=1000000)(hW:W.length<=1000000)
  (k:∀w' H',StE lo nb xb G H' n x w' q (W++L) Pt->H.length<=H'.length->R w' H'):wpH cp lo (.app 1 z) [w,.slice (some ⟨H.length,0,none⟩) d d] (H++[some (uN L)]) R:=by
 refine(h.mono (Ext.app _ _)).appW (L:=L) aG (by rw[List.drop_zero,List.take_of_length_le (by simp;omega)]) hd hL (by simp;omega) hW ?_;intro w' H' h' hl;exact k w' H' h' (by simp at hl;omega)
theorem StE.litP{cp:FuncId->Option CF}{z:List Value}{d:Nat}{L:List Nat}{R:Value->Heap->Prop}(h:StE lo nb xb G H n x w q W Pt)(hL:L.length=d)(hd:0<d/\d<=1000000)(hW:Pt.length<=1000000)
  (k:∀q' H',StE lo nb xb G H' n x w q' W (Pt++L)->H.length<=H'.length->R q' H'):wpH cp lo (.app 1 z) [q,.slice (some ⟨H.length,0,none⟩) d d] (H++[some (uN L)]) R:=
 h.swap.litW hL hd hW fun w' H' h' hl=>k w' H' h'.swap hl
structure HdE (lo nb:Nat)(G H:Heap)(n:RN)(w q:Value)(W Pt:List Nat):Prop where
 ext:Ext G H
 gn:H.get nb=some (rnC n)
 lb:lo<=G.length
 nn:G.length<=nb
 tw:∃bw bq,(G.length<=bw/\G.length<=bq)/\(Own lo 1 H w bw (uN W)/\Own lo 1 H q bq (uN Pt))/\(W≠[]->bw≠nb)/\(Pt≠[]->bq≠nb)/\(W≠[]->Pt≠[]->bw≠bq)
theorem HdE.st{H':Heap}(h:HdE lo nb G H n w q W Pt)(e:Ext H H')(h2:H'.get xb=some (rsC x))(hx:H.length<=xb):StE lo nb xb G H' n x w q W Pt:=by
 obtain⟨bw,bq,g1,⟨g2,g3⟩,g4,g5,g6⟩:=h.tw;have:=h.nn;have:=h.ext.1;have:=Heap.get_lt h.gn;refine⟨h.ext.trans e,e.get h.gn,h2,h.lb,⟨byO,byO,byO⟩,bw,bq,g1,⟨g2.mono e,g3.mono e⟩,fun a=>?_,fun a=>?_,g6⟩
 ·have:=oe g2 a
  have:=g4 a;omega
 ·have:=oe g3 a
  have:=g5 a;omega
theorem StE.hd{H':Heap}{nb':Nat}{n':RN}(h:StE lo nb xb G H n x w q W Pt)(e:Ext H H')(h1:H'.get nb'=some (rnC n'))(hn:H.length<=nb'):HdE lo nb' G H' n' w q W Pt:=by
 obtain⟨bw,bq,g1,⟨g2,g3⟩,g4,g5,g6⟩:=h.tw;have:=h.ext.1;refine⟨h.ext.trans e,h1,h.lb,byO,bw,bq,g1,⟨g2.mono e,g3.mono e⟩,fun a=>?_,fun a=>?_,g6⟩
 ·have:=oe g2 a
  omega
 ·have:=oe g3 a
  omega
theorem HdE.start(hlo:lo<=H.length):HdE lo H.length H (H++[some (rnC n)]) n (.slice none 0 0) (.slice none 0 0) [] []:=
 ⟨Ext.app _ _,aG,hlo,Nat.le_refl _,H.length,H.length,⟨Nat.le_refl _,Nat.le_refl _⟩,⟨Own.nil hlo,Own.nil hlo⟩,fun e=>absurd rfl e,fun e=>absurd rfl e,fun e=>absurd rfl e⟩
end
section
variable {lo:Nat}{H:Heap}{v:Value}{p:List UInt8}
open XYe
set_option maxHeartbeats 3200000 in
theorem Ob(hp:SlU H v p)(hl:p.length<=4096)(hlo:lo<=H.length):Ev cp lo 25 [v] H (fun r H'=>Ext H H'/\∃C w b,SolR p C/\r=.tuple #[w,aA 0]/\H.length<=b/\Own lo 1 H' w b (uN (ku p C (mea C (asR 0)+1) (asR 0) [] []))):=by
 obtain⟨ad,c,ev⟩:=hp.len;subst ev;refine stG rfl rfl ?_;unfold Nl;simp only[kB,aC];refine aE ?_;refine aN ?_ ?_<;>intro h
 ·exfalso;simp at h;omega
 clear h;(try simp only[aC]);refine bR ?_;refine aB (LW (lo:=lo) hp hl hlo) ?_;rintro r H1 ⟨hx1,C,hNew,rfl,hco⟩;have hsol:=E0 hNew;clear hNew;have hl1:=hx1.1;have hkl1:=Heap.get_lt hco.c;have hinv:=B0 hsol hl;obtain⟨R0,hR0⟩:∃R0,False\/ku p C (mea C (asR 0)+1) (asR 0) [] []=R0:=⟨_,.inr rfl⟩;obtain⟨f0,hf0⟩:∃f0,f0=mea C (asR 0)+1:=⟨_,rfl⟩;have hR00:=hR0;rw[<-hf0]at hR0;have hf1:mea C (asR 0)<f0:=byO;refine aE ?_;have hd0:HdE lo H1.length H1 (H1++[some (rnC (asR 0))]) (asR 0) (.slice none 0 0) (.slice none 0 0) [] []:=HdE.start byO;change wpS cp lo _ _ _ (H1++[some (rnC (asR 0))]);generalize H1++[some (rnC (asR 0))]=H2 at hd0;refine bH (fun m S H'=>∃nb n w q W Pt,((HdE lo nb H1 H' n w q W Pt/\InvR p C 70000 n W Pt)/\mea C n<m/\(False\/ku p C m n W Pt=R0))/\∃(z:Nat->Value),S=[.slice ad p.length c,z 1,z 2,coV H.length p,w,q,ptr nb,z 7,z 8,z 9,z 10,z 11,z 12,z 13,z 14,z 15,z 16,z 17,z 18,z 19,z 20,z 21,z 22,z 23,z 24,z 25,z 26,z 27,z 28,z 29,z 30,z 31,z 32,z 33,z 34,z 35,z 36,z 37,z 38,z 39,z 40,z 41,z 42,z 43,z 44,z 45,z 46,z 47,z 48,z 49]) f0 ⟨H1.length,asR 0,_,_,[],[],⟨⟨hd0,hinv⟩,hf1,hR0⟩,aJ rfl⟩ ?_;clear hd0 hinv hf1 hR0 hf0;rintro m S H3 ⟨nb,n,w,q,W,Pt,⟨⟨hd,hi⟩,hm,hR⟩,z,rfl⟩;obtain⟨m,rfl⟩:∃m',m=m'+1:=⟨m-1,byO⟩;have hxd:=hd.ext;have hn0:=hd.nn;have hld:=hxd.1;have hn1:=hi.ok.i;have hn2:=hi.ok.m;have hgn:H3.get nb=some [aA n.i,aA n.m,aA n.ph,aA n.s,.bool n.u]:=hd.gn;by_cases he:qc p n
 ·have he1:n.m<=0/\p.length<=n.i:=by unfold qc at he;omega
  have hRW:ku p C (m+1) n W Pt=W:=by
   show(if n.m≠0\/n.i<p.length then _ else W)=W;rw[if_neg byO]
  rw[hRW]at hR;have d1:decide ((n.m:Int)≠0)=false:=decide_eq_false byO;have d2:decide ((n.i:Int)<(p.length:Nat))=false:=decide_eq_false byO;clear hRW;obtain⟨bw,bq,g1,⟨g2,g3⟩,g4,g5,g6⟩:=hd.tw;clear hi hm;(try simp only[aC]);refine aN ?_ ?_<;>intro h
  ·exfalso;first|cases h|(simp at h;done)|(simp at h;omega)
  ·clear h
   refine aE ?_;refine dB ?_;refine⟨hx1.trans hxd,C,w,bw,hsol,rfl,byO,?_⟩;have e1:W=R0:=hR.resolve_left id;have e2:ku p C (mea C (asR 0)+1) (asR 0) [] []=R0:=hR00.resolve_left id;rw[e2,<-e1];exact g2
 ·have hcc:(!decide ((n.m:Int)=0) || decide ((n.i:Int)<(p.length:Nat)))=true:=by
   have:¬ (n.m=0/\n.i=p.length):=he;by_cases e:n.m=0
   ·have:n.i<p.length:=byO
    rw[decide_eq_true (p:=(n.i:Int)<(p.length:Nat)) byO];simp
   ·rw[decide_eq_false (p:=(n.m:Int)=0) byO];rfl
  have hRW:ku p C (m+1) n W Pt=ku p C m (dQ p n C).to (di p n (dQ p n C) W Pt).1 (di p n (dQ p n C) W Pt).2:=by
   have:¬ (n.m=0/\n.i=p.length):=he;show(if n.m≠0\/n.i<p.length then _ else W)=_;rw[if_pos byO]
  rw[hRW]at hR;clear hRW;obtain⟨hx,ht,_⟩:=jx hsol hi.ok hi.fin he;have hmm:=(sA hi.ok hx ht).1;have hinv:=Ds hi hx ht;have hxok:=lu hi.ok _ hx;have hco3:=hco.ext hxd;clear hR00;(try simp only[aC]);refine aN ?_ ?_<;>intro h
  ·clear h
   (try simp only[aC]);refine bR ?_;refine aB (GM (n:=n) hco3 hi.ok byO) ?_;rintro r H4 ⟨hx4,rfl⟩;generalize dQ p n C=x at hx ht hmm hinv hxok hR ⊢;have hl4:=hx4.1;refine aE ?_;have hst:StE lo nb H4.length H1 (H4++[some (rsC x)]) n x w q W Pt:=hd.st (hx4.trans (Ext.app _ _)) aG hl4;change wpS cp lo _ _ _ (H4++[some (rsC x)]);generalize H4.length=xb at hst;generalize H4++[some (rsC x)]=H5 at hst;clear hd hgn hxd hld hx4 hl4 hco3 hcc;refine eS (fun S' H'=>∃w q,StE lo nb xb H1 H' n x w q (di p n x W Pt).1 (di p n x W Pt).2/\∃(z:Nat->Value),S'=[.slice ad p.length c,z 1,z 2,coV H.length p,w,q,ptr nb,ptr xb,z 8,z 9,z 10,z 11,z 12,z 13,z 14,z 15,z 16,z 17,z 18,z 19,z 20,z 21,z 22,z 23,z 24,z 25,z 26,z 27,z 28,z 29,z 30,z 31,z 32,z 33,z 34,z 35,z 36,z 37,z 38,z 39,z 40,z 41,z 42,z 43,z 44,z 45,z 46,z 47,z 48,z 49]) ?_ ?_
   ·have hWl:W.length<=70000/\Pt.length<=70000:=by have:=hi.sz;omega
    obtain⟨hWl,hPl⟩:=hWl;have hgx:H5.get xb=some [aA x.w,.int .i64 x.s,.int .i64 x.t,aA x.c,aA x.to.i,aA x.to.m,aA x.to.ph,aA x.to.s,.bool x.to.u]:=hst.gx;have hgn:H5.get nb=some [aA n.i,aA n.m,aA n.ph,aA n.s,.bool n.u]:=hst.gn;have hpv:=hp.mono (hx1.trans hst.ext);clear hR hinv hmm ht;unfold bW at hx;unfold di;by_cases hm0:n.m=0
    ·rw[if_pos hm0]at hx
     simp only[if_pos hm0];have dm0:decide ((n.m:Int)=0)=true:=decide_eq_true byO;replace hm0:n.m<=0:=byO;rcases jY hi.ok hx with ⟨d,hd,hdl,hrun⟩|⟨hw,hxt,hph,hs⟩
     ·obtain⟨s1,hs1,hs1l⟩:∃s1:Nat,x.s=(s1:Int)/\s1<=2000:=by
       rw[hrun];unfold cV;split
       ·exact⟨d,rfl,byO⟩
       ·exact⟨d/250+249,rfl,byO⟩
      have ht1:x.t=-1\/∃t1:Nat,x.t=(t1:Int)/\t1<=2000:=by
       rw[hrun];unfold cV;split
       ·exact .inl rfl
       ·exact .inr ⟨d%250,rfl,byO⟩
      have hw:x.w=231:=by rw[hrun];unfold cV;split<;>rfl
      have hti:x.to.i=n.i+d:=by rw[hrun];unfold cV;split<;>rfl
      have hdd:x.to.i-n.i=d:=byO;rw[if_pos hw,hdd];have hse:∀W,CD x W=W++[(s1+msk W.length)%256]:=fun W=>by unfold CD;rw[hs1,Int.toNat_natCast]
      have hte:∀W,(x.t=-1/\sF x W=W)\/∃t1:Nat,(x.t=(t1:Int)/\t1<=2000)/\sF x W=W++[(t1+msk W.length)%256]:=fun W=>by
       unfold sF;rcases ht1 with h|⟨t1,h,h2⟩
       ·exact .inl ⟨h,by rw[if_neg byO]⟩
       ·exact .inr ⟨t1,⟨h,h2⟩,by rw[if_pos byO,h,Int.toNat_natCast]⟩
      replace hse:False\/_:=.inr hse;replace hte:False\/_:=.inr hte;clear hrun hdd ht1 hx;have dw:decide ((x.w:Int)=231)=true:=decide_eq_true byO;obtain⟨xw,xs,xt,xc,xto⟩:=x;simp only at hw hs1 hti hgx dw;subst hs1;replace hti:xto.i<=n.i+d/\n.i+d<=xto.i:=byO;replace hw:False\/xw=231:=.inr hw;refine aN ?_ ?_<;>intro h
      ·clear h dw dm0
       refine aE ?_;change wpS cp lo _ _ _ (H5++[some (uN [231])]);refine bR ?_;refine hst.litW (L:=[231]) rfl byO byO ?_;intro w6 H6 hst6 hl6;clear hgx hgn hpv;have hgx:H6.get xb=some [aA xw,aA s1,.int .i64 xt,aA xc,aA xto.i,aA xto.m,aA xto.ph,aA xto.s,.bool xto.u]:=hst6.gx;obtain⟨aw6,rfl⟩:=hst6.sl;have hW6:(W++[231]).length<=70001:=by rw[as₀,List.length_singleton];omega
       generalize W++[231]=W6 at hst6 hW6 ⊢;rw[hse.resolve_left id];refine aE ?_;refine bR ?_;refine aB (C6 (x:=s1) (k:=W6.length) byO byO) ?_;rintro r H7 ⟨rfl,rfl⟩;have hmb:(s1+msk W6.length)%256<256:=Nat.mod_lt _ byO;generalize (s1+msk W6.length)%256=r1 at hmb ⊢;refine aE ?_;change wpS cp lo _ _ _ (H6++[some (uN [r1])]);refine bR ?_;refine hst6.litW (L:=[r1]) rfl byO byO ?_;intro w7 H7 hst7 hl7;have hW7:(W6++[r1]).length<=70002:=by rw[as₀,List.length_singleton];omega
       generalize W6++[r1]=W7 at hst7 hW7 ⊢;clear hgx hst6 hse hW6;have hgx:H7.get xb=some [aA xw,aA s1,.int .i64 xt,aA xc,aA xto.i,aA xto.m,aA xto.ph,aA xto.s,.bool xto.u]:=hst7.gx;refine aE ?_;refine bz (fun S' H'=>∃w q,StE lo nb xb H1 H' n ⟨xw,s1,xt,xc,xto⟩ w q (sF ⟨xw,s1,xt,xc,xto⟩ W7) Pt/\∃(z:Nat->Value),S'=[.slice ad p.length c,z 1,z 2,coV H.length p,w,q,ptr nb,ptr xb,z 8,z 9,z 10,z 11,z 12,z 13,z 14,z 15,z 16,z 17,z 18,z 19,z 20,z 21,z 22,z 23,z 24,z 25,z 26,z 27,z 28,z 29,z 30,z 31,z 32,z 33,z 34,z 35,z 36,z 37,z 38,z 39,z 40,z 41,z 42,z 43,z 44,z 45,z 46,z 47,z 48,z 49]) ?_ ?_
       ·rcases hte.resolve_left id W7 with ⟨hxt,hthi⟩|⟨t1,⟨hxt,ht1⟩,hthi⟩
        ·rw[hthi]
         clear hte hthi;have dd:decide (xt>=0)=false:=decide_eq_false (by simp only at hxt;omega);clear hxt;refine aN ?_ ?_<;>intro h
         ·exfalso;first|cases h|(simp at h;done)
         ·(try simp only[aC])
          exact⟨_,_,hst7,aJ ncM⟩
        ·rw[hthi]
         clear hte hthi;simp only at hxt;subst hxt;have dd:decide ((t1:Int)>=0)=true:=decide_eq_true byO;refine aN ?_ ?_<;>intro h
         ·clear h dd
          obtain⟨aw7,rfl⟩:=hst7.sl;refine aE ?_;refine bR ?_;refine aB (C6 (x:=t1) (k:=W7.length) byO byO) ?_;rintro r H8 ⟨rfl,rfl⟩;generalize (t1+msk W7.length)%256=r1;refine aE ?_;change wpS cp lo _ _ _ (H7++[some (uN [r1])]);refine bR ?_;refine hst7.litW (L:=[r1]) rfl byO byO ?_;intro w8 H8 hst8 hl8;refine aE ?_;exact⟨_,_,hst8,aJ ncM⟩
         ·exfalso;first|cases h|(simp at h;done)
       clear hst7 hgx hst hl6 hl7;rintro S' H8 ⟨w,q,hst8,z,rfl⟩;have hW8:(sF ⟨xw,s1,xt,xc,xto⟩ W7).length<=70010:=by
        unfold sF;split
        ·rw[as₀,List.length_singleton];omega
        ·omega
       generalize sF ⟨xw,s1,xt,xc,xto⟩ W7=W8 at hst8 hW8 ⊢;clear hte;have hgn:H8.get nb=some [aA n.i,aA n.m,aA n.ph,aA n.s,.bool n.u]:=hst8.gn;refine aE ?_;refine aa (fun k S H'=>∃w q,StE lo nb xb H1 H' n ⟨xw,s1,xt,xc,xto⟩ w q (oD p W8 n.i k) Pt/\∃(z:Nat->Value),S=[.slice ad p.length c,z 1,z 2,coV H.length p,w,q,ptr nb,ptr xb,.int .i64 ((n.i:Int)+(k:Nat)),z 9,z 10,z 11,z 12,z 13,z 14,z 15,z 16,z 17,z 18,z 19,z 20,z 21,z 22,z 23,z 24,z 25,z 26,z 27,z 28,z 29,z 30,z 31,z 32,z 33,z 34,z 35,z 36,z 37,z 38,z 39,z 40,z 41,z 42,z 43,z 44,z 45,z 46,z 47,z 48,z 49]) d ⟨w,q,hst8,aJ (by simp)⟩ ?_ ?_ ?_
       ·rintro k S H' hk ⟨w,q,hst9,z,rfl⟩
        have hgx:H'.get xb=some [aA xw,aA s1,.int .i64 xt,aA xc,aA xto.i,aA xto.m,aA xto.ph,aA xto.s,.bool xto.u]:=hst9.gx;exact⟨decide ((n.i:Int)+(k:Nat)<(xto.i:Nat)),by simp(disch:=try exact dO)only[evB,xtr,Nat.reduceAdd,Nat.reduceBEq,Int.reduceToNat, *],by simp;omega⟩
       ·rintro k S H9 hk ⟨w,q,hst9,z,rfl⟩
        have hlz:=oF p W8 n.i k;replace hlz:(oD p W8 n.i k).length<=72000:=byO;have hrs:oD p W8 n.i (k+1)=oD p W8 n.i k++[(by' p (n.i+k)+msk (oD p W8 n.i k).length)%256]:=rfl;rw[hrs];clear hrs hst8 hW8 hgn;generalize oD p W8 n.i k=W9 at hst9 hlz ⊢;obtain⟨bb,oo,xs,hia,hgx,hxx⟩:=fX (hp.mono (hx1.trans hst9.ext)) (k:=n.i+k) byO;have hby:=(p.getD (n.i+k) 0).toNat_lt;replace hxx:xs[oo]?=some (.int .u8 ((p.getD (n.i+k) 0).toNat:Nat)):=hxx;have hbe:by' p (n.i+k)=(p.getD (n.i+k) 0).toNat:=rfl;rw[hbe];clear hbe;generalize (p.getD (n.i+k) 0).toNat=y at hxx hby ⊢;simp only[ap₀]at hia;obtain⟨aw9,rfl⟩:=hst9.sl;refine aE ?_;refine bR ?_;refine aB (C6 (x:=y) (k:=W9.length) byO byO) ?_;rintro r H10 ⟨rfl,rfl⟩;generalize (y+msk W9.length)%256=r1;refine aE ?_;change wpS cp lo _ _ _ (H9++[some (uN [r1])]);refine bR ?_;refine hst9.litW (L:=[r1]) rfl byO byO ?_;intro w10 H10 hst10 hl10;refine aE ?_;exact⟨_,_,hst10,aJ ncM⟩
       ·rintro S H9 ⟨w,q,hst9,z,rfl⟩
        (try simp only[aC]);exact⟨_,_,hst9,aJ ncM⟩
      ·exfalso;first|cases h|(simp at h;done)
     ·rw[if_neg hw]
      have dw:decide ((x.w:Int)=231)=false:=decide_eq_false byO;have hxw:=hxok.w;clear hx hxt hph hxok;refine aN ?_ ?_<;>intro h
      ·exfalso;first|cases h|(simp at h;done)
      clear h;(try simp only[aC]);refine aN ?_ ?_<;>intro h
      ·clear h dw dm0
       refine aE ?_;change wpS cp lo _ _ _ (H5++[some (uN [x.w])]);refine bR ?_;refine hst.litW (L:=[x.w]) rfl byO byO ?_;intro w6 H6 hst6 hl6;clear hgx hgn;have hgx:H6.get xb=some [aA x.w,.int .i64 x.s,.int .i64 x.t,aA x.c,aA x.to.i,aA x.to.m,aA x.to.ph,aA x.to.s,.bool x.to.u]:=hst6.gx;rcases hs with ⟨hs,_⟩|⟨ds,hds,hs,_⟩
       ·have dd:decide (x.s>=0)=false:=decide_eq_false byO
        rw[if_neg byO,List.append_nil];replace hs:False\/x.s=-1:=.inr hs;refine aE ?_;refine aN ?_ ?_<;>intro h
        ·exfalso;first|cases h|(simp at h;done)
        ·(try simp only[aC])
         exact⟨_,_,hst6,aJ ncM⟩
       ·have dd:decide (x.s>=0)=true:=decide_eq_true byO
        have htn:x.s.toNat=ds:=byO;rw[if_pos byO,htn];clear htn;obtain⟨xw,xs,xt,xc,xto⟩:=x;simp only at hs hgx hst6 dd ⊢;subst hs;refine aE ?_;refine aN ?_ ?_<;>intro h
        ·clear h dd
         refine aE ?_;change wpS cp lo _ _ _ (H6++[some (uN [ds])]);refine bR ?_;refine hst6.litW (L:=[ds]) rfl byO (by rw[as₀,List.length_singleton];omega) ?_;intro w7 H7 hst7 hl7;refine aE ?_;exact⟨_,_,hst7,aJ ncM⟩
        ·exfalso;first|cases h|(simp at h;done)
      ·simp at h
    have dm0:decide ((n.m:Int)=0)=false:=decide_eq_false byO;rw[if_neg hm0]at hx;simp only[if_neg hm0];refine aN ?_ ?_<;>intro h
    ·exfalso;first|cases h|(simp at h;done)
    clear h;(try simp only[aC]);refine aN ?_ ?_<;>intro h
    ·exfalso;first|cases h|(simp at h;done)
    clear h dm0;(try simp only[aC]);by_cases hm4:n.m=4
    ·rw[if_neg byO]at hx
     simp only[if_pos hm4];have dm4:decide ((n.m:Int)=4)=true:=decide_eq_true byO;have hpt:=hi.ptv;have hxw:x.w<64:=by
      rcases(kr hx).2 with rfl|⟨_,rfl⟩
      ·exact(by decide:31<64)
      ·simp only;omega
     replace hm4:n.m<=4/\4<=n.m:=byO;clear hx hm0;refine aN ?_ ?_<;>intro h
     ·clear h dm4
      refine aE ?_;change wpS cp lo _ _ _ (H5++[some (uN [x.w])]);refine bR ?_;refine hst.litP (L:=[x.w]) rfl byO byO ?_;intro q6 H6 hst6 hl6;have hP6:(Pt++[x.w]).length<=70001/\1<=(Pt++[x.w]).length:=by rw[as₀,List.length_singleton];omega
      have hpt6:=lR hpt hxw;clear hgx hgn;have hgx:H6.get xb=some [aA x.w,.int .i64 x.s,.int .i64 x.t,aA x.c,aA x.to.i,aA x.to.m,aA x.to.ph,aA x.to.s,.bool x.to.u]:=hst6.gx;by_cases hw:x.w=31
      ·have dw:decide ((x.w:Int)=31)=true:=decide_eq_true byO
       have hrp:(if x.w=31 then(W++cE (Pt++[31]),([]:List Nat)) else(W,Pt++[x.w]))=(W++cE (Pt++[x.w]),[]):=by rw[if_pos hw,hw]
       rw[hrp];clear hrp;generalize Pt++[x.w]=P6 at hst6 hP6 hpt6 ⊢;replace hw:x.w<=31/\31<=x.w:=byO;obtain⟨bw6,bq6,g1,⟨g2,g3⟩,g4⟩:=hst6.tw;refine aE ?_;refine aN ?_ ?_<;>intro h
       ·clear h dw
        (try simp only[aC]);refine bR ?_;refine aB (Hy (lo:=lo) g3 byO hpt6 (by have:=hst6.lb;have:=hst6.ext.1;omega)) ?_;rintro r H7 ⟨hx7,rfl,hg7⟩;clear g1 g2 g3 g4;have hst7:=hst6.mono hx7;have hpk:=og P6;refine aE ?_;refine bR ?_;refine hst7.appW (L:=cE P6) hg7 (by rw[List.drop_zero,List.take_of_length_le (by simp;omega)]) byO hpk (by simp;omega) byO ?_;intro w8 H8 hst8 hl8;refine aE ?_;exact⟨_,_,hst8.nil,aJ ncM⟩
       ·exfalso;first|cases h|(simp at h;done)
      ·have dw:decide ((x.w:Int)=31)=false:=decide_eq_false byO
       rw[if_neg hw];refine aE ?_;refine aN ?_ ?_<;>intro h
       ·exfalso;first|cases h|(simp at h;done)
       ·(try simp only[aC])
        exact⟨_,_,hst6,aJ ncM⟩
     ·exfalso;first|cases h|(simp at h;done)
    have dm4:decide ((n.m:Int)=4)=false:=decide_eq_false byO;rw[if_pos hm4]at hx;simp only[if_neg hm4];have hp3:=hi.pt3 byO;have hph:=hi.ok.ph.2.1 hm4;have hpt:=hi.ptv;have hxw:x.w<=254:=by
     rcases eJ 40 byO hx with ⟨rfl,_⟩|⟨v,t,hv,hu,rfl⟩
     ·exact Nat.le_refl _
     ·simp only;omega
    clear hx;refine aN ?_ ?_<;>intro h
    ·exfalso;first|cases h|(simp at h;done)
    clear h dm4;by_cases hw:x.w=254
    ·have dw:decide ((x.w:Int)=254)=true:=decide_eq_true byO
     rw[if_pos hw];replace hw:x.w<=254/\254<=x.w:=byO;(try simp only[aC]);refine aN ?_ ?_<;>intro h
     ·clear h dw
      refine aE ?_;change wpS cp lo _ _ _ (H5++[some (uN [254])]);refine bR ?_;refine hst.litW (L:=[254]) rfl byO byO ?_;intro w6 H6 hst6 hl6;refine aE ?_;exact⟨_,_,hst6,aJ ncM⟩
     ·exfalso;first|cases h|(simp at h;done)
    have dw:decide ((x.w:Int)=254)=false:=decide_eq_false byO;rw[if_neg hw];(try simp only[aC]);refine aN ?_ ?_<;>intro h
    ·exfalso;first|cases h|(simp at h;done)
    clear h dw;refine aE ?_;change wpS cp lo _ _ _ (H5++[some (uN [x.w])]);refine bR ?_;refine hst.litP (L:=[x.w]) rfl byO byO ?_;intro q6 H6 hst6 hl6;clear hgx hgn hpv;by_cases h2:Pt.length=2
    ·rw[if_pos h2]
     obtain⟨u,v,rfl⟩:∃u v,Pt=[u,v]:=by
      match Pt,h2 with
      | [u,v],_=>exact⟨u,v,rfl⟩
     have hu:=hpt 0;have hv:=hpt 1;simp only[List.getD_cons_zero,List.getD_cons_succ]at hu hv;have htr:trR [u,v] x.w=1600*u+40*v+x.w+1:=rfl;rw[htr];clear htr;obtain⟨aq6,hq6,hgq⟩:∃b,q6=.slice (some ⟨b,0,some 1⟩) 3 3/\H6.get b=some (uN [u,v,x.w]):=by
      obtain⟨bw6,bq6,g1,⟨g2,g3⟩,g4⟩:=hst6.tw;obtain⟨_,⟨_,h⟩|⟨k,h0,h1,h2,hg⟩⟩:=g3
      ·simp at h
      ·have:k=3:=by simpa using h1
       subst this;exact⟨bq6,h2,hg⟩
     subst hq6;replace hgq:H6.get aq6=some [aA u,aA v,aA x.w]:=hgq;have e1:1600*(u:Int)+40*(v:Int)+(x.w:Int)+1=((1600*u+40*v+x.w+1:Nat):Int):=byO;have hbN:1600*u+40*v+x.w+1<=200000:=byO;generalize 1600*u+40*v+x.w+1=N at e1 hbN ⊢;have e2:(N:Int).tdiv 256=((N/256:Nat):Int):=by rw[Int.tdiv_eq_ediv_of_nonneg byO];omega
     have e3:(N:Int).tmod 256=((N%256:Nat):Int):=by rw[Int.tmod_eq_emod_of_nonneg byO];omega
     have hb1:N/256<=1000:=byO;generalize N/256=N1 at e2 hb1 ⊢;generalize N%256=N2 at e3 ⊢;refine aE ?_;refine aN ?_ ?_<;>intro h
     ·clear h
      refine aE ?_;change wpS cp lo _ _ _ (H6++[some (uN [N1,N2])]);refine bR ?_;refine hst6.litW (L:=[N1,N2]) rfl byO byO ?_;intro w8 H8 hst8 hl8;refine aE ?_;exact⟨_,_,hst8.nil,aJ ncM⟩
     ·exfalso;first|cases h|(simp at h;done)
    ·rw[if_neg h2]
     obtain⟨aq6,hq6⟩:=hst6.swap.sl;have hl6:(Pt++[x.w]).length<=2:=by rw[as₀,List.length_singleton];omega
     obtain⟨lq,hlq⟩:∃lq,False\/(Pt++[x.w]).length=lq:=⟨_,.inr rfl⟩;rw[hlq.resolve_left id]at hq6 hl6;subst hq6;have dl:decide ((lq:Int)=3)=false:=decide_eq_false byO;refine aE ?_;refine aN ?_ ?_<;>intro h
     ·exfalso;first|cases h|(simp at h;done)
     ·(try simp only[aC])
      exact⟨_,_,hst6,aJ ncM⟩
   clear hst;rintro S' H6 ⟨w,q,hst6,z,rfl⟩;generalize di p n x W Pt=e at hinv hR hst6;obtain⟨W',Pt'⟩:=e;simp only at hinv hR hst6;have hmx:mea C x.to<m:=byO;(try simp only[aC]);refine eS (fun S' H'=>StE lo nb xb H1 H' x.to x w q W' Pt'/\∃(z:Nat->Value),S'=[.slice ad p.length c,z 1,z 2,coV H.length p,w,q,ptr nb,ptr xb,z 8,z 9,z 10,z 11,z 12,z 13,z 14,z 15,z 16,z 17,z 18,z 19,z 20,z 21,z 22,z 23,z 24,z 25,z 26,z 27,z 28,z 29,z 30,z 31,z 32,z 33,z 34,z 35,z 36,z 37,z 38,z 39,z 40,z 41,z 42,z 43,z 44,z 45,z 46,z 47,z 48,z 49]) ?_ ?_
   ·have hgx:H6.get xb=some [aA x.w,.int .i64 x.s,.int .i64 x.t,aA x.c,aA x.to.i,aA x.to.m,aA x.to.ph,aA x.to.s,.bool x.to.u]:=hst6.gx
    have hgn:H6.get nb=some [aA n.i,aA n.m,aA n.ph,aA n.s,.bool n.u]:=hst6.gn;have hnl:=Heap.get_lt hgn;have hnn:=hst6.nn;have hlb:=hst6.lb;refine aE ?_;exact⟨hst6.node keepSet (aF byO),aJ rfl⟩
   rintro S' H7 ⟨hst7,z,rfl⟩;have hgn:H7.get nb=some [aA x.to.i,aA x.to.m,aA x.to.ph,aA x.to.s,.bool x.to.u]:=hst7.gn;have hlb:=hst7.lb;have hle:=hst7.ext.1;refine aE ?_;have hd8:HdE lo H7.length H1 (H7++[some (rnC x.to)]) x.to w q W' Pt':=hst7.hd (Ext.app _ _) aG (Nat.le_refl _);exact⟨m,byO,_,x.to,w,q,W',Pt',⟨⟨hd8,hinv⟩,hmx,hR⟩,aJ rfl⟩
  ·exfalso
   have:¬ (n.m=0/\n.i=p.length):=he;by_cases e:n.m=0
   ·rw[decide_eq_true (p:=(n.i:Int)<(p.length:Nat)) byO]at h
    revert h;cases decide ((n.m:Int)≠0)<;>simp
   ·rw[decide_eq_true (p:=(n.m:Int)≠0) byO]at h
    cases h
end
end Go.Proofs.YtmnlgdpdgjbfgaaGreat
