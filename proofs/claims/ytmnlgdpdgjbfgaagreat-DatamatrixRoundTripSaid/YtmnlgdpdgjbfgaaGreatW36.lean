/- Lemmas. -/
import Derived.Test.YtmnlgdpdgjbfgaaGreatW9
import Derived.Test.YtmnlgdpdgjbfgaaGreatW29
import Derived.Test.YtmnlgdpdgjbfgaaGreatW34
set_option linter.all false
namespace Go.Proofs.YtmnlgdpdgjbfgaaGreat
open Go.Abs
variable{H:Heap}{lo:Nat}
def fg(s:Sz):Int:=s.r.tdiv (s.rr+2)*s.rr
def eA(s:Sz):Int:=s.c.tdiv (s.rc+2)*s.rc
structure SzOK (s:Sz):Prop where
 r0:8<=s.r
 r1:s.r<=200
 c0:8<=s.c
 c1:s.c<=200
 rr0:6<=s.rr
 rr1:s.rr<=200
 rc0:6<=s.rc
 rc1:s.rc<=200
 d0:1<=s.d
 d1:s.d<=1600
 k0:1<=s.k
 k1:s.k<=1600
def Gy(s:Sz):Bool:=decide (8<=s.r)&&decide (s.r<=200)&&decide (8<=s.c)&&decide (s.c<=200)&&decide (6<=s.rr)&&decide (s.rr<=200)&&decide (6<=s.rc)&&decide (s.rc<=200)&&decide (1<=s.d)&&decide (s.d<=1600)&&decide (1<=s.k)&&decide (s.k<=1600)
theorem Jx{s:Sz}(h:Gy s=true):SzOK s:=by
 simp only[Gy,ac₀,af₀]at h;obtain⟨⟨⟨⟨⟨⟨⟨⟨⟨⟨⟨a,b⟩,c⟩,d⟩,e⟩,f⟩,g⟩,i⟩,j⟩,k⟩,l⟩,m⟩:=h;exact⟨a,b,c,d,e,f,g,i,j,k,l,m⟩
theorem pY:∀s ∈ szs,SzOK s:=fun s hs=>Jx (List.all_eq_true.1 (show szs.all Gy=true by kernel_rfl) s hs)
theorem bC{i:Nat}(h:i<30):bx i ∈ szs:=by
 unfold bx;rw[au₀,bc₀ (by rw[gN];exact h)];exact List.getElem_mem _
theorem ke{a b:Int}(h:0<=a)(hb:0<b):0<=a.tdiv b/\a.tdiv b<=a:=⟨Int.tdiv_nonneg h byO,Int.tdiv_le_self b h⟩
theorem kN{s:Sz}(h:SzOK s):0<=fg s/\fg s<=40000/\0<=eA s/\eA s<=40000/\0<=s.r.tdiv (s.rr+2)/\s.r.tdiv (s.rr+2)<=200/\0<=s.c.tdiv (s.rc+2)/\s.c.tdiv (s.rc+2)<=200:=by
 obtain⟨r0,r1,c0,c1,rr0,rr1,rc0,rc1,_⟩:=h;have d1:=ke (a:=s.r) (b:=s.rr+2) byO byO;have d2:=ke (a:=s.c) (b:=s.rc+2) byO byO;have m1:=eK (a:=s.r.tdiv (s.rr+2)) (b:=s.rr) (A:=200) (B:=200) byO byO byO byO byO;have m2:=eK (a:=s.c.tdiv (s.rc+2)) (b:=s.rc) (A:=200) (B:=200) byO byO byO byO byO;have n1:0<=s.r.tdiv (s.rr+2)*s.rr:=Int.mul_nonneg d1.1 byO;have n2:0<=s.c.tdiv (s.rc+2)*s.rc:=Int.mul_nonneg d2.1 byO;unfold fg eA;omega
open XJWfit
theorem pJ{s:Sz}(hs:SzOK s):Ev cp lo 77 [s.val] H (fun v H'=>Ext H H'/\v=.tuple #[.int .i64 (fg s),.int .i64 (eA s)]):=by
 have hb:=kN hs;obtain⟨r0,r1,c0,c1,rr0,rr1,rc0,rc1,_⟩:=hs;unfold fg eA at hb;refine stG rfl rfl ?_;unfold P4;simp only[kB,aC];refine aX ?_;refine dY ?_;exact⟨Ext.app _ _,rfl⟩
def QM(R C:Int):Prop:=∃s ∈ szs,fg s=R/\eA s=C
def lr(s:Sz)(row:Int):Int:=row.tmod (s.rr+2)
def lc(s:Sz)(col:Int):Int:=col.tmod (s.rc+2)
def iH(s:Sz)(row col:Int):Bool:=(decide (lc s col=0) || decide (lr s row=s.rr+1)) || decide (lr s row=0) || decide (lc s col=s.rc+1)
def vW(s:Sz)(row col:Int):Bool:=if (decide (lc s col=0) || decide (lr s row=s.rr+1))=true then true else if lr s row=0 then decide ((lc s col).tmod 2=0) else if lc s col=s.rc+1 then decide ((lr s row).tmod 2=1) else false
def dU(s:Sz)(row col:Int):Int:=if iH s row col=true then 0 else(row.tdiv (s.rr+2)*s.rr+lr s row-1)*eA s+col.tdiv (s.rc+2)*s.rc+lc s col-1
theorem xn{s:Sz}{row col:Int}(hs:SzOK s)(hlo:lo<=H.length)(h0:0<=row)(h1:row<=200)(h2:0<=col)(h3:col<=200) :
  Ev cp lo 79 [s.val,.int .i64 row,.int .i64 col] H (fun v H'=>Ext H H'/\v=.agg #[.bool (iH s row col),.bool (vW s row col),.int .i64 (dU s row col)]):=by
 have hb:=kN hs;have hs':=hs;obtain⟨r0,r1,c0,c1,rr0,rr1,rc0,rc1,_⟩:=hs';have m1:=iM (a:=row) (m:=s.rr+2) byO byO;have m2:=iM (a:=col) (m:=s.rc+2) byO byO;have e1:s.rr+2-1=s.rr+1:=byO;have e2:s.rc+2-1=s.rc+1:=byO;have er:row.tmod (s.rr+2)=lr s row:=rfl;have ec:col.tmod (s.rc+2)=lc s col:=rfl;rw[er]at m1;rw[ec]at m2;refine stG rfl rfl ?_;unfold P6;simp only[kB,aC];refine aX ?_;by_cases k1:(decide (lc s col=0) || decide (lr s row=s.rr+1))=true
 ·refine dF ?_ ?_<;>intro h
  ·clear h
   refine aX ?_;refine dY ?_;refine⟨Ext.app _ _,?_⟩;simp[aM,iH,vW,dU,k1]
  ·cases h
 have k1':(decide (lc s col=0) || decide (lr s row=s.rr+1))=false:=by simpa using k1
 refine dF ?_ ?_<;>intro h
 ·cases h
 clear h;have a1:¬ lc s col=0:=by intro e;simp[e]at k1'
 have a2:¬ lr s row=s.rr+1:=by intro e;simp[e]at k1'
 clear k1 k1';(try simp only[aC]);refine dF ?_ ?_<;>intro h
 ·have k2:lr s row=0:=by simpa using h
  clear h;refine aX ?_;refine dY ?_;refine⟨Ext.app _ _,?_⟩;have a3:¬ (0:Int)=s.rr+1:=byO;simp[aM,iH,vW,dU,a1,a3,k2]
 have k2:¬ lr s row=0:=by simpa using h
 clear h;(try simp only[aC]);refine dF ?_ ?_<;>intro h
 ·have k3:lc s col=s.rc+1:=by simpa using h
  clear h;refine aX ?_;refine dY ?_;refine⟨Ext.app _ _,?_⟩;have a3:¬ s.rc+1=0:=byO;simp[aM,iH,vW,dU,a2,k2,k3,a3]
 have k3:¬ lc s col=s.rc+1:=by simpa using h
 clear h;(try simp only[aC]);refine eD ?_;refine aA (pJ (s:=s) hs) ?_;rintro v H3 ⟨hx3,rfl⟩;have g0:H3.get H.length=some _:=hx3.get ju;have g1:H3.get (H.length+1)=some _:=hx3.get ju;have hl3:=hx3.1;simp only[as₀,ak₀,an₀]at hl3;have t1:=ke (a:=row) (b:=s.rr+2) byO byO;have t2:=ke (a:=col) (b:=s.rc+2) byO byO;have u1:=eK (a:=row.tdiv (s.rr+2)) (b:=s.rr) (A:=200) (B:=200) byO byO byO byO byO;have u2:=eK (a:=col.tdiv (s.rc+2)) (b:=s.rc) (A:=200) (B:=200) byO byO byO byO byO;have u3:=eK (a:=row.tdiv (s.rr+2)*s.rr+lr s row-1) (b:=eA s) (A:=50000) (B:=40000) byO byO byO byO byO;have hx0:=hx3.of_app;refine aX ?_;refine dY ?_;refine⟨hx0.set byO,?_⟩;simp[aM,iH,vW,dU,a1,a2,k2,k3]
def Ml(R C i:Int):Bool:=(decide (i.tdiv C=R-2)&&decide (i.tmod C=C-2)) || (decide (i.tdiv C=R-1)&&decide (i.tmod C=C-1))
theorem I1{R C i:Int}(hd:Dim R C)(h0:0<=i)(h1:i<=2000000000):Ev cp lo 80 [.int .i64 R,.int .i64 C,.int .i64 i] H (fun v H'=>H'=H/\v=.bool (Ml R C i)):=by
 obtain⟨r0,r1,c0,c1⟩:=hd;have t1:=ke (a:=i) (b:=C) byO byO;refine stG rfl rfl ?_;unfold P7;simp only[kB,aC];refine aX ?_;refine dY ?_;exact⟨rfl,rfl⟩
theorem Ls{a b:Sz}:ax [1,1,1,1,1,1,1] a.cells b.cells=some (decide (a=b)):=by
 cases a;cases b;simp[Sz.cells,ax,kA];rw[Bool.eq_iff_iff];simp
theorem Im{j:Nat}{s:Sz}(hg:H.get j=some szCells):Ev cp lo 99 [.slice (some ⟨j,0,none⟩) 30 30,s.val] H (fun v H'=>Ext H H'/\∃k:Int,v=.int .i64 k/\decide (0<=k)=decide (s ∈ szs)):=by
 have hj:=Heap.get_lt hg;refine stG rfl rfl ?_;unfold MS;simp only[kB,aC];refine aX ?_;refine bK (fun m S H'=>∃(i:Int) (x4:Value),0<=i/\i<=30/\m=(30-i).toNat/\S=[.slice (some ⟨j,0,none⟩) 30 30,s.val,.pointer (some ⟨H.length,0,none⟩),.int .i64 0,x4,.int .i64 30,.int .i64 i]/\H'=H++[some s.cells]/\¬ s ∈ szs.take i.toNat) 30 ?_ ?_
 ·exact⟨0,_,byO,byO,byO,rfl,rfl,by simp⟩
 rintro m S H2 ⟨i,x4,hi0,hi1,rfl,rfl,rfl,hno⟩;(try simp only[aC]);refine dF ?_ ?_<;>intro h
 ·have hi:i<30:=by simpa using h
  clear h;have hrow:=jB (i:=i.toNat) byO;have hlen:=g9;have hse:=Ls (a:=s) (b:=bx i.toNat);simp only[Sz.cells]at hse;have hmem:=bC (i:=i.toNat) byO;refine aX ?_;refine dF ?_ ?_<;>intro h
  ·have he:s=bx i.toNat:=by simpa using h
   clear h;refine aX ?_;refine dY ?_;refine⟨Ext.app _ _,i,rfl,?_⟩;rw[he];simp[hmem,hi0]
  ·have he:¬ s=bx i.toNat:=by simpa using h
   clear h;refine aX ?_;simp only[cM];refine⟨(30-(i+1)).toNat,byO,i+1,_,byO,byO,rfl,rfl,by trivial,?_⟩;rw[show(i+1).toNat=i.toNat+1 by omega,iL byO];intro hm;rcases List.mem_append.1 hm with hm|hm
   ·exact hno hm
   ·simp at hm;exact he hm
 ·obtain rfl:i=30:=by simp at h;omega
  clear h;refine aX ?_;refine dY ?_;refine⟨Ext.app _ _,-1,rfl,?_⟩;rw[List.take_of_length_le (by rw[gN];omega)]at hno;simp[hno]
theorem zF{j:Nat}{s:Sz}(hg:H.get j=some szCells):Ev cp lo 54 [.slice (some ⟨j,0,none⟩) 30 30,s.val] H (fun v H'=>Ext H H'/\v=.bool (decide (s ∈ szs))):=by
 have hj:=Heap.get_lt hg;refine stG rfl rfl ?_;unfold MQ;simp only[kB,aC];refine aX ?_;refine eD ?_;refine aA (Im (s:=s) (j:=j) HU) ?_;rintro v H1 ⟨hx,k,rfl,hk⟩;refine aX ?_;refine dY ?_;exact⟨hx.of_app,by simp only[aM,hk]⟩
def Words(H:Heap)(v:Value)(ws:List Int):Prop:=(v=.slice none 0 0/\ws=[])\/∃b cap xs,v=.slice (some ⟨b,0,none⟩) ws.length cap/\H.get b=some (ak xs)/\(∀i,i<ws.length->xs.getD i 0=ws.getD i 0)/\ws.length<=xs.length
theorem Words.mono{H H':Heap}{v:Value}{ws:List Int}(h:Words H v ws)(e:Ext H H'):Words H' v ws:=by
 rcases h with h|⟨b,cap,xs,h1,h2,h3⟩
 ·exact .inl h
 ·exact .inr ⟨b,cap,xs,h1,e.get h2,h3⟩
def Br(w n:Int):Bool:=decide (IntKind.i64.wrap ((BitVec.ofInt IntKind.i64.bits (w.fdiv (2^(min (7-n.tmod 8).toNat IntKind.i64.bits))) &&& BitVec.ofInt IntKind.i64.bits 1).toNat:Int)=1)
def fy(s:Sz)(o ws:List Int)(i:Nat):Bool:=
 if iH s ((i:Int).tdiv s.c) ((i:Int).tmod s.c)=true then vW s ((i:Int).tdiv s.c) ((i:Int).tmod s.c)
 else if 0<=o.getD (dU s ((i:Int).tdiv s.c) ((i:Int).tmod s.c)).toNat 0 then Br (ws.getD ((o.getD (dU s ((i:Int).tdiv s.c) ((i:Int).tmod s.c)).toNat 0).tdiv 8).toNat 0) (o.getD (dU s ((i:Int).tdiv s.c) ((i:Int).tmod s.c)).toNat 0)
 else Ml (fg s) (eA s) (dU s ((i:Int).tdiv s.c) ((i:Int).tmod s.c))
def c8(s:Sz)(o ws:List Int)(i:Nat):List Bool:=(List.range i).map (fy s o ws)
structure SizeOrd (s:Sz)(gf:G):Prop where
 ord:Cg (fg s) (eA s)=some gf
 dim:Dim (fg s) (eA s)
 od:Ordered (fg s*eA s).toNat (s.d+s.k).toNat gf.cells
 loc:∀i:Nat,(i:Int)<s.r*s.c->iH s ((i:Int).tdiv s.c) ((i:Int).tmod s.c)=false->0<=dU s ((i:Int).tdiv s.c) ((i:Int).tmod s.c)/\dU s ((i:Int).tdiv s.c) ((i:Int).tmod s.c)<fg s*eA s
def du(ws:List Int):Bool:=ws.any fun w=>decide (w<0) || decide (255<w)
theorem xy{s:Sz}{o ws:List Int}{i n:Nat}{b:Bool}(hi:i<n)(hb:b=fy s o ws i):(c8 s o ws i++List.replicate (n-i) false).set i b=c8 s o ws (i+1)++List.replicate (n-(i+1)) false:=by
 have hl:(c8 s o ws i).length=i:=by simp[c8]
 rw[List.set_append_right i b byO,hl,Nat.sub_self];obtain⟨k,hk⟩:∃k,n-i=k+1:=⟨n-i-1,byO⟩;rw[hk,List.replicate_succ,List.set_cons_zero,show n-(i+1)=k by omega,hb];simp[c8,List.range_succ]
theorem mg{p:Int->Bool}{l:List Int}{i:Nat}(h:i<l.length):(l.take (i+1)).any p=((l.take i).any p || p (l.getD i 0)):=by
 rw[List.take_add_one,bc₀ h,List.any_append,au₀,bc₀ h];simp
set_option maxHeartbeats 4000000 in
theorem J3{v:Value}{ws:List Int}{s:Sz}(hlo:lo<=H.length)(hw:Words H v ws)(hs:s ∈ szs->∃gf,SizeOrd s gf) :
  Ev cp lo 41 [v,s.val] H (fun r H'=>Ext H H' /\
   ((¬ s ∈ szs/\r=.tuple #[.agg #[.int .i64 0,.int .i64 0,.slice none 0 0],.int .i64 14]) \/
    (s ∈ szs/\(ws.length:Int)≠s.d+s.k/\r=.tuple #[.agg #[.int .i64 0,.int .i64 0,.slice none 0 0],.int .i64 7]) \/
    (s ∈ szs/\(ws.length:Int)=s.d+s.k/\du ws=true/\r=.tuple #[.agg #[.int .i64 0,.int .i64 0,.slice none 0 0],.int .i64 3]) \/
    (s ∈ szs/\(ws.length:Int)=s.d+s.k/\du ws=false/\∃gf q,SizeOrd s gf/\H.length<=q/\r=.tuple #[.agg #[.int .i64 s.c,.int .i64 s.r,.slice (some ⟨q,0,none⟩) (s.r*s.c).toNat (s.r*s.c).toNat],.int .i64 0]/\H'.get q=some (gS (c8 s gf.cells ws (s.r*s.c).toNat))))):=by
 refine stG rfl rfl ?_;unfold PR;simp only[kB,aC];refine aX ?_;refine eD ?_;refine aa (qe (Nat.le_refl _)) ?_;rintro v1 H1 ⟨j,hj,rfl,hg,hE⟩;have g0:H1.get H.length=some _:=hE.get ju;have g1:H1.get (H.length+1)=some _:=hE.get ju;have hx1:=hE.of_app;have hl1:=hE.1;simp only[as₀,ak₀,an₀]at hj hl1;clear hE;(try simp only[aC]);refine eD ?_;refine aA (zF (s:=s) (j:=j) hg) ?_;rintro v2 H2 ⟨hx2,rfl⟩;have g0:=hx2.get g0;have g1:=hx2.get g1;have hx2:=hx1.trans hx2;have hl2:=Heap.get_lt g1;clear hx1 hl1 hg;(try simp only[aC]);refine dF ?_ ?_<;>intro h
 ·have hsm:¬ s ∈ szs:=by simpa using h
  clear h;refine aX ?_;refine dY ?_;exact⟨hx2.set byO,.inl ⟨hsm,rfl⟩⟩
 have hsm:s ∈ szs:=by simpa using h
 clear h;obtain⟨gf,hso⟩:=hs hsm;have hok:=pY s hsm;have hok':=hok;obtain⟨r0,r1,c0,c1,rr0,rr1,rc0,rc1,d0,d1,k0,k1⟩:=hok';(try simp only[aC]);rcases hw with ⟨rfl,rfl⟩|⟨b,cap,xs,rfl,hb,hws,hwl⟩
 ·refine dF ?_ ?_<;>intro h
  ·clear h
   refine aX ?_;refine dY ?_;exact⟨hx2.set byO,.inr (.inl ⟨hsm,by simp;omega,rfl⟩)⟩
  ·simp at h;omega
 have hbl:=Heap.get_lt hb;refine dF ?_ ?_<;>intro h
 ·have hlen:¬ (ws.length:Int)=s.d+s.k:=by simpa using h
  clear h;refine aX ?_;refine dY ?_;exact⟨hx2.set byO,.inr (.inl ⟨hsm,hlen,rfl⟩)⟩
 have hlen:(ws.length:Int)=s.d+s.k:=by simpa using h
 clear h;have hb2:=hx2.get hb;have hsl:ws.length<=3200:=byO;refine aX ?_;refine fW (fun S' H'=>∃x1 x5 x13 x14 x15 x18:Value,du ws=false/\S'=[.slice (some ⟨b,0,none⟩) ws.length cap,x1,.pointer (some ⟨H.length,0,none⟩),.pointer (some ⟨H.length+1,0,none⟩),.int .i64 0,x5,undef,undef,undef,undef,undef,undef,undef,x13,x14,x15,.slice (some ⟨b,0,none⟩) ws.length cap,.int .i64 (s.d+s.k),x18,undef,undef,undef,undef,undef,undef,undef,undef,undef,undef,undef,undef]/\H'=H2) ?_ ?_
 ·refine bK (fun m S' H'=>∃(x1 x5 x13 x14 x15:Value) (i:Nat),i<=ws.length/\m=ws.length-i/\du (ws.take i)=false/\S'=[.slice (some ⟨b,0,none⟩) ws.length cap,x1,.pointer (some ⟨H.length,0,none⟩),.pointer (some ⟨H.length+1,0,none⟩),.int .i64 0,x5,undef,undef,undef,undef,undef,undef,undef,x13,x14,x15,.slice (some ⟨b,0,none⟩) ws.length cap,.int .i64 (s.d+s.k),.int .i64 i,undef,undef,undef,undef,undef,undef,undef,undef,undef,undef,undef,undef]/\H'=H2) ws.length ?_ ?_
  ·exact⟨_,_,_,_,_,0,byO,byO,by simp[du],rfl,rfl⟩
  rintro m S' H' ⟨x1,x5,x13,x14,x15,i,hi,rfl,hbw,rfl,rfl⟩;(try simp only[aC]);refine dF ?_ ?_<;>intro h
  ·have hi2:i<ws.length:=by simp at h;omega
   clear h;have hne:(i:Int)<ws.length:=byO;refine aX ?_;refine dF ?_ ?_<;>intro h
   ·have hbad:du ws=true:=by
     have:=mg (p:=fun w=>decide (w<0) || decide (255<w)) hi2;have h2:(ws.take (i+1)).any (fun w=>decide (w<0) || decide (255<w))=true:=by rw[this,h];simp
     unfold du;obtain⟨w,hw1,hw2⟩:=List.any_eq_true.1 h2;exact List.any_eq_true.2 ⟨w,List.mem_of_mem_take hw1,hw2⟩
    clear h;refine aX ?_;refine dY ?_;exact⟨hx2.set byO,.inr (.inr (.inl ⟨hsm,hlen,hbad,rfl⟩))⟩
   ·refine aX ?_
    simp only[cM];refine⟨ws.length-(i+1),byO,_,_,_,_,_,i+1,byO,rfl,?_,by simp only[ap₀,Int.natCast_one];rfl,by trivial⟩;unfold du at hbw ⊢;rw[mg hi2,hbw,h];rfl
  ·have hi2:i=ws.length:=by simp at h;omega
   clear h;subst hi2;rw[List.take_of_length_le (Nat.le_refl _)]at hbw;(try simp only[aC]);exact⟨_,_,_,_,_,_,hbw,rfl,by trivial⟩
 rintro S' H' ⟨x1,x5,x13,x14,x15,x18,hbw,rfl,rfl⟩;(try simp only[aC]);refine eD ?_;refine aA (pJ (s:=s) hok) ?_;rintro v H3 ⟨hx3,rfl⟩;have g0:=hx3.get g0;have g1:=hx3.get g1;have hb3:=hx3.get hb2;have hx3:=hx2.trans hx3;refine aX ?_;refine eD ?_;refine aA (BP hso.dim (by have:=hx3.1;omega) hso.ord) ?_;rintro v H4 ⟨hx4,q,hq,rfl,hgq⟩;have g0:=hx4.get g0;have g1:=hx4.get g1;have hb4:=hx4.get hb3;have hl4:=Heap.get_lt g1;have hql:=Heap.get_lt hgq;have hl3:=hx3.1;have hx4:=hx3.trans hx4;have hm:=eK (a:=s.r) (b:=s.c) (A:=200) (B:=200) byO byO byO byO byO;have hm0:0<=s.r*s.c:=Int.mul_nonneg byO byO;refine aX ?_;have hgl:gf.cells.length<=(fg s*eA s).toNat/\(fg s*eA s).toNat<=gf.cells.length:=by rw[hso.od.len];omega
 have hmb:=kN hok;have hrc0:0<=fg s*eA s:=Int.mul_nonneg byO byO;generalize hM:H4.length=M at *;generalize hN:(s.r*s.c).toNat=N at *;have hNi:(N:Int)<=s.r*s.c/\s.r*s.c<=N:=byO;clear hN;refine bK (fun m S' H'=>∃(x1 x5 x13 x14 x15 x18 x19 x20 x21 x22 x23 x24 y10 y11 y12 y27 y28 y29 y30:Value) (i:Nat),i<=N/\m=N-i/\S'=[.slice (some ⟨b,0,none⟩) ws.length cap,x1,.pointer (some ⟨H.length,0,none⟩),.pointer (some ⟨H.length+1,0,none⟩),.int .i64 0,x5,.int .i64 (fg s),.int .i64 (eA s),.slice (some ⟨q,0,none⟩) gf.cells.length gf.cells.length,.pointer (some ⟨M+1,0,none⟩),y10,y11,y12,x13,x14,x15,.slice (some ⟨b,0,none⟩) ws.length cap,.int .i64 (s.d+s.k),x18,x19,x20,x21,x22,x23,x24,.int .i64 N,.int .i64 i,y27,y28,y29,y30]/\Ext H H'/\M+1<H'.length/\H'.get H.length=some s.cells/\H'.get (H.length+1)=some [.int .i64 0,.int .i64 0,.slice none 0 0]/\H'.get b=some (ak xs)/\H'.get q=some (ak gf.cells)/\H'.get (M+1)=some [.int .i64 s.c,.int .i64 s.r,.slice (some ⟨M,0,none⟩) N N]/\H'.get M=some (gS (c8 s gf.cells ws i++List.replicate (N-i) false))) N ?_ ?_
 ·refine⟨_,_,_,_,_,_,_,_,_,_,_,_,_,_,_,_,_,_,_,0,byO,byO,rfl,hx4.trans (Ext.app _ _),?_,?_,?_,?_,?_,?_,?_⟩
  ·simp;omega
  ·rw[aP byO];exact g0
  ·rw[aP byO];exact g1
  ·rw[aP byO];exact hb4
  ·rw[aP byO];exact hgq
  ·rw[<-hM];exact bO
  ·rw[<-hM,aH];simp[c8]
 rintro m S' H5 ⟨x1,x5,x13,x14,x15,x18,x19,x20,x21,x22,x23,x24,y10,y11,y12,y27,y28,y29,y30,i,hi,rfl,rfl,hx5,hl5,f0,f1,fb,fq,fm1,fm⟩;clear g0 g1 hb4 hgq hb3 hb2 hx2 hx3 hx4 hb;(try simp only[aC]);refine dF ?_ ?_<;>intro h
 ·have hi2:i<N:=by simp at h;omega
  clear h;have hiN:(i:Int)<s.r*s.c:=byO;have tb:=ke (a:=i) (b:=s.c) byO byO;have tm:=iM (a:=i) (m:=s.c) byO byO;have trow:(i:Int).tdiv s.c<=200:=by
   have:(i:Int).tdiv s.c<s.r:=by
    rw[Int.tdiv_eq_ediv_of_nonneg byO];exact Int.ediv_lt_of_lt_mul byO hiN
   omega
  have hloc:=hso.loc i hiN;have hset:∀{d:Bool},d=fy s gf.cells ws i->(c8 s gf.cells ws i++List.replicate (N-i) false).set i d=c8 s gf.cells ws (i+1)++List.replicate (N-(i+1)) false:=fun h=>xy hi2 h;have hml:(c8 s gf.cells ws i++List.replicate (N-i) false).length=N:=by simp[c8];omega
  have hdef:=fy.eq_1 s gf.cells ws i;generalize hrow:(i:Int).tdiv s.c=row at *;generalize hcol:(i:Int).tmod s.c=col at *;refine aX ?_;refine eD ?_;refine aA (xn (s:=s) (row:=row) (col:=col) hok (by have:=hx5.1;omega) byO byO byO byO) ?_;rintro v H6 ⟨hx6,rfl⟩;have f0:=hx6.get f0;have f1:=hx6.get f1;have fb:=hx6.get fb;have fq:=hx6.get fq;have fm1:=hx6.get fm1;have fm:=hx6.get fm;have hl6:=Heap.get_lt fm1;have hx6:=hx5.trans hx6;have hl06:=hx6.1;refine aX ?_;have hMl:=Heap.get_lt fm;refine dF ?_ ?_<;>intro h
  ·have hB:=h
   clear hloc h;refine aX ?_;have hd:vW s row col=fy s gf.cells ws i:=by rw[hdef,if_pos hB]
   simp only[cM];refine⟨N-(i+1),byO,_,_,_,_,_,_,_,_,_,_,_,_,_,_,_,_,_,_,_,i+1,byO,rfl,by simp only[ap₀,Int.natCast_one];rfl,(hx6.set byO).trans (Ext.app _ _),by simp;omega,by rw[aP (by simp;omega),aF byO];exact f0,by rw[aP (by simp;omega),aF byO];exact f1,by rw[aP (by simp;omega),aF byO];exact fb,by rw[aP (by simp;omega),aF byO];exact fq,by rw[aP (by simp;omega),aF byO];exact fm1,?_⟩;rw[aP (by simp;omega),aE byO,hset hd]
  have hB:=h;have hloc:=hloc hB;clear h;have hnb:¬ iH s row col=true:=by rw[hB];simp
  rw[if_neg hnb]at hdef;have hltI:(dU s row col).toNat<(fg s*eA s).toNat:=byO;have hlt8:=hso.od.lt (dU s row col).toNat hltI;have hgd:gf.cells.getD (dU s row col).toNat 0=gf.cells.getD (dU s row col).toNat (-1):=by
   simp[au₀,bc₀ (show(dU s row col).toNat<gf.cells.length by omega)]
  rw[<-hgd]at hlt8;clear hgd;have hnI:(dU s row col).toNat<gf.cells.length:=byO;have hlocb:dU s row col<=40000*40000:=by
   have:=eK (a:=fg s) (b:=eA s) (A:=40000) (B:=40000) byO byO byO byO byO;omega
  refine aX ?_;generalize hn:gf.cells.getD (dU s row col).toNat 0=n at *;refine dF ?_ ?_<;>intro h
  ·have hn0:0<=n:=by simpa using h
   clear h;rw[if_pos hn0]at hdef;have t8:=ke (a:=n) (b:=8) hn0 byO;have m8:=iM (a:=n) (m:=8) hn0 byO;have q8:n.tdiv 8<ws.length:=by
    rw[Int.tdiv_eq_ediv_of_nonneg hn0];omega
   have q8':(n.tdiv 8).toNat<ws.length:=byO;have hbe:∀w:Int,decide (IntKind.i64.wrap ((BitVec.ofInt IntKind.i64.bits (w.fdiv (2^(min (7-n.tmod 8).toNat IntKind.i64.bits))) &&& BitVec.ofInt IntKind.i64.bits 1).toNat:Int)=1)=Br w n:=fun _=>rfl;refine aX ?_;have hd:Br (ws.getD (n.tdiv 8).toNat 0) n=fy s gf.cells ws i:=hdef.symm;simp only[cM];refine⟨N-(i+1),byO,_,_,_,_,_,_,_,_,_,_,_,_,_,_,_,_,_,_,_,i+1,byO,rfl,by simp only[ap₀,Int.natCast_one];rfl,(hx6.set byO).trans (Ext.app _ _),by simp;omega,by rw[aP (by simp;omega),aF byO];exact f0,by rw[aP (by simp;omega),aF byO];exact f1,by rw[aP (by simp;omega),aF byO];exact fb,by rw[aP (by simp;omega),aF byO];exact fq,by rw[aP (by simp;omega),aF byO];exact fm1,?_⟩;rw[aP (by simp;omega),aE byO,hset hd]
  ·have hn0:¬ 0<=n:=by simpa using h
   clear h;rw[if_neg hn0]at hdef;(try simp only[aC]);refine eD ?_;refine aa (I1 (i:=dU s row col) hso.dim byO byO) ?_;rintro v H7 ⟨rfl,rfl⟩;refine aX ?_;have hd:Ml (fg s) (eA s) (dU s row col)=fy s gf.cells ws i:=hdef.symm;simp only[cM];refine⟨N-(i+1),byO,_,_,_,_,_,_,_,_,_,_,_,_,_,_,_,_,_,_,_,i+1,byO,rfl,by simp only[ap₀,Int.natCast_one];rfl,(hx6.set byO).trans (Ext.app _ _),by simp;omega,by rw[aP (by simp;omega),aF byO];exact f0,by rw[aP (by simp;omega),aF byO];exact f1,by rw[aP (by simp;omega),aF byO];exact fb,by rw[aP (by simp;omega),aF byO];exact fq,by rw[aP (by simp;omega),aF byO];exact fm1,?_⟩;rw[aP (by simp;omega),aE byO,hset hd]
 ·have hi2:i=N:=by simp at h;omega
  clear h;subst hi2;have hMl:=Heap.get_lt fm;refine aX ?_;refine dY ?_;refine⟨hx5.set byO,.inr (.inr (.inr ⟨hsm,hlen,hbw,gf,M,hso,byO,rfl,?_⟩))⟩;rw[aF byO,fm];simp
def WordsX(H:Heap)(v:Value)(ws:List Int):Prop:=(v=.slice none 0 0/\ws=[])\/∃b sp cap xs,v=.slice (some ⟨b,0,sp⟩) ws.length cap/\H.get b=some (ak xs)/\(∀i,i<ws.length->xs.getD i 0=ws.getD i 0)/\ws.length<=xs.length/\ws.length<=cap/\(sp=none\/sp=some 1)
theorem WordsX.sli{H:Heap}{v:Value}{ws:List Int}(h:WordsX H v ws):SlI H v ws:=by
 rcases h with h|⟨b,sp,cap,xs,h1,h2,h3,h4,h5,h6⟩
 ·exact .inl h
 ·refine .inr ⟨b,0,sp,cap,ak xs,h1,h2,?_,by simpa[ak]using h4,h6,h5⟩
  rw[List.drop_zero];refine List.ext_getElem? fun i=>?_;by_cases hi:i<ws.length
  ·have:=h3 i hi
   rw[List.getElem?_take,if_pos hi,ak,az₀,az₀,bc₀ hi,bc₀ byO];simp only[au₀,bc₀ hi,bc₀ (show i<xs.length by omega),aq₀]at this;simp[this]
  ·rw[av₀ (by simp;omega),av₀ (by simp;omega)]
theorem ze{a b:List Int}(hl:a.length=b.length)(h:∀i,i<a.length->a.getD i 0=b.getD i 0):a=b:=by
 apply List.ext_getElem hl;intro i h1 h2;have:=h i h1;simpa[au₀,bc₀ h1,bc₀ h2]using this
theorem za{R h rr K x:Int}(hR:R=K*h)(hh:h=rr+2)(hrr:0<rr)(h0:0<=x)(hx:x<R)(_:0<=K)(n0:¬ x.tmod h=0)(n1:¬ x.tmod h=rr+1):0<=x.tdiv h*rr+x.tmod h-1/\x.tdiv h*rr+x.tmod h-1<K*rr:=by
 rw[Int.tdiv_eq_ediv_of_nonneg h0]at *;rw[Int.tmod_eq_emod_of_nonneg h0]at *;have m0:=Int.emod_nonneg x (show h≠0 by omega);have m1:=Int.emod_lt_of_pos x (show 0<h by omega);have d0:0<=x/h:=Int.ediv_nonneg h0 byO;have d1:x/h<K:=Int.ediv_lt_of_lt_mul byO (by rw[<-hR];exact hx);have p0:0<=x/h*rr:=Int.mul_nonneg d0 byO;have p1:(x/h+1)*rr<=K*rr:=Int.mul_le_mul_of_nonneg_right byO byO;rw[Int.add_mul]at p1;omega
structure SzFit (s:Sz):Prop where
 hr:s.r=s.r.tdiv (s.rr+2)*(s.rr+2)
 hc:s.c=s.c.tdiv (s.rc+2)*(s.rc+2)
theorem qf:∀s ∈ szs,SzFit s:=by
 have h:szs.all (fun s=>decide (s.r=s.r.tdiv (s.rr+2)*(s.rr+2))&&decide (s.c=s.c.tdiv (s.rc+2)*(s.rc+2)))=true:=by kernel_rfl
 intro s hs;have:=List.all_eq_true.1 h s hs;simp only[ac₀,af₀]at this;exact⟨this.1,this.2⟩
theorem NI{s:Sz}(hs:SzOK s)(hf:SzFit s)(i:Nat)(hi:(i:Int)<s.r*s.c)(hB:iH s ((i:Int).tdiv s.c) ((i:Int).tmod s.c)=false):0<=dU s ((i:Int).tdiv s.c) ((i:Int).tmod s.c)/\dU s ((i:Int).tdiv s.c) ((i:Int).tmod s.c)<fg s*eA s:=by
 have hmb:=kN hs;obtain⟨r0,r1,c0,c1,rr0,rr1,rc0,rc1,_⟩:=hs;have tm:=iM (a:=i) (m:=s.c) byO byO;have tr:0<=(i:Int).tdiv s.c/\(i:Int).tdiv s.c<s.r:=by
  rw[Int.tdiv_eq_ediv_of_nonneg byO];exact⟨Int.ediv_nonneg byO byO,Int.ediv_lt_of_lt_mul byO hi⟩
 generalize (i:Int).tdiv s.c=row at *;generalize (i:Int).tmod s.c=col at *;have hI:dU s row col=(row.tdiv (s.rr+2)*s.rr+lr s row-1)*eA s+(col.tdiv (s.rc+2)*s.rc+lc s col-1):=by
  unfold dU;rw[hB];simp only[ah₀,if_false];omega
 simp only[iH,Bool.or_eq_false_iff,ai₀]at hB;obtain⟨⟨⟨b1,b2⟩,b3⟩,b4⟩:=hB;have x1:=za (R:=s.r) (h:=s.rr+2) (rr:=s.rr) (K:=s.r.tdiv (s.rr+2)) (x:=row) hf.hr rfl byO byO byO byO b3 b2;have x2:=za (R:=s.c) (h:=s.rc+2) (rr:=s.rc) (K:=s.c.tdiv (s.rc+2)) (x:=col) hf.hc rfl byO byO byO byO b1 b4;have x1':0<=row.tdiv (s.rr+2)*s.rr+lr s row-1/\row.tdiv (s.rr+2)*s.rr+lr s row-1<fg s:=x1;have x2':0<=col.tdiv (s.rc+2)*s.rc+lc s col-1/\col.tdiv (s.rc+2)*s.rc+lc s col-1<eA s:=x2;rw[hI];exact zb x1'.1 x1'.2 x2'.1 x2'.2
theorem aQ{s:Sz}(hs:s ∈ szs){R C w:Nat}(hR:fg s=R)(hC:eA s=C)(hw:(s.d+s.k).toNat=w)(hdim:(6<=R/\R<=200)/\6<=C/\C<=200)(h:dH R C w=true):∃gf,SizeOrd s gf:=by
 obtain⟨g,h1,h2⟩:=zp h;refine⟨g,?_,?_,?_,NI (pY s hs) (qf s hs)⟩
 ·rw[hR,hC];exact h1
 ·rw[hR,hC];exact⟨byO,byO,byO,byO⟩
 ·rw[hR,hC,hw,<-Int.natCast_mul,Int.toNat_natCast];exact h2
theorem sE{s:Sz}{o ws:List Int}{n i:Nat}(h:i<n):(c8 s o ws n).getD i false=fy s o ws i:=by
 simp[c8,au₀,h]
theorem qC{s:Sz}{o ws:List Int}{n:Nat}:(c8 s o ws n).length=n:=by simp[c8]
end Go.Proofs.YtmnlgdpdgjbfgaaGreat
