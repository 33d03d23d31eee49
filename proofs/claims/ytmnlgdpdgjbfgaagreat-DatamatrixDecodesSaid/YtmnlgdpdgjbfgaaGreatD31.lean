/- Lemmas. -/
import Derived.Test.YtmnlgdpdgjbfgaaGreatD29
import Derived.Test.YtmnlgdpdgjbfgaaGreatD30
set_option linter.all false
namespace Go.Proofs.YtmnlgdpdgjbfgaaGreat
open Go.Abs
variable{H:Heap}{lo:Nat}
def gh(s:Sz):Int:=s.r.tdiv (s.rr+2)*s.rr
def ez(s:Sz):Int:=s.c.tdiv (s.rc+2)*s.rc
structure SzOK (s:Sz):Prop where
 r0:8<=s.r
 r1:s.r<=200
 c0:8<=s.c
 c1:s.c<=200
 rr0:6<=s.rr
 rr1:s.rr<=200
 rc0:6<=s.rc
 rc1:s.rc<=200
 d0:1<=s.d
 d1:s.d<=1600
 k0:1<=s.k
 k1:s.k<=1600
def Eg(s:Sz):Bool:=decide (8<=s.r)&&decide (s.r<=200)&&decide (8<=s.c)&&decide (s.c<=200)&&decide (6<=s.rr)&&decide (s.rr<=200)&&decide (6<=s.rc)&&decide (s.rc<=200)&&decide (1<=s.d)&&decide (s.d<=1600)&&decide (1<=s.k)&&decide (s.k<=1600)
theorem HU{s:Sz}(h:Eg s=true):SzOK s:=by
 simp only[Eg,ac₀,af₀]at h;obtain⟨⟨⟨⟨⟨⟨⟨⟨⟨⟨⟨a,b⟩,c⟩,d⟩,e⟩,f⟩,g⟩,i⟩,j⟩,k⟩,l⟩,m⟩:=h;exact⟨a,b,c,d,e,f,g,i,j,k,l,m⟩
theorem uk:∀s ∈ szs,SzOK s:=fun s hs=>HU (List.all_eq_true.1 (show szs.all Eg=true by kernel_rfl) s hs)
theorem an{i:Nat}(h:i<30):bZ i ∈ szs:=by
 unfold bZ;rw[au₀,bb₀ (by rw[gP];exact h)];exact List.getElem_mem _
theorem lp{a b:Int}(h:0<=a)(hb:0<b):0<=a.tdiv b/\a.tdiv b<=a:=⟨Int.tdiv_nonneg h byO,Int.tdiv_le_self b h⟩
theorem kp{s:Sz}(h:SzOK s):0<=gh s/\gh s<=40000/\0<=ez s/\ez s<=40000/\0<=s.r.tdiv (s.rr+2)/\s.r.tdiv (s.rr+2)<=200/\0<=s.c.tdiv (s.rc+2)/\s.c.tdiv (s.rc+2)<=200:=by
 obtain⟨r0,r1,c0,c1,rr0,rr1,rc0,rc1,_⟩:=h;have d1:=lp (a:=s.r) (b:=s.rr+2) byO byO;have d2:=lp (a:=s.c) (b:=s.rc+2) byO byO;have m1:=dF (a:=s.r.tdiv (s.rr+2)) (b:=s.rr) (A:=200) (B:=200) byO byO byO byO byO;have m2:=dF (a:=s.c.tdiv (s.rc+2)) (b:=s.rc) (A:=200) (B:=200) byO byO byO byO byO;have n1:0<=s.r.tdiv (s.rr+2)*s.rr:=Int.mul_nonneg d1.1 byO;have n2:0<=s.c.tdiv (s.rc+2)*s.rc:=Int.mul_nonneg d2.1 byO;unfold gh ez;omega
open XJWd
theorem sg{s:Sz}(hs:SzOK s):Ev cp lo 77 [s.val] H (fun v H'=>Ext H H'/\v=.tuple #[.int .i64 (gh s),.int .i64 (ez s)]):=by
 have hb:=kp hs;obtain⟨r0,r1,c0,c1,rr0,rr1,rc0,rc1,_⟩:=hs;unfold gh ez at hb;refine stG rfl rfl ?_;unfold NV;simp only[kB,aB];refine aU ?_;refine dU ?_;exact⟨Ext.app _ _,rfl⟩
def OI(R C:Int):Prop:=∃s ∈ szs,gh s=R/\ez s=C
def lr(s:Sz)(row:Int):Int:=row.tmod (s.rr+2)
def lc(s:Sz)(col:Int):Int:=col.tmod (s.rc+2)
def fk(s:Sz)(row col:Int):Bool:=(decide (lc s col=0) || decide (lr s row=s.rr+1)) || decide (lr s row=0) || decide (lc s col=s.rc+1)
def qg(s:Sz)(row col:Int):Bool:=if (decide (lc s col=0) || decide (lr s row=s.rr+1))=true then true else if lr s row=0 then decide ((lc s col).tmod 2=0) else if lc s col=s.rc+1 then decide ((lr s row).tmod 2=1) else false
def eO(s:Sz)(row col:Int):Int:=if fk s row col=true then 0 else(row.tdiv (s.rr+2)*s.rr+lr s row-1)*ez s+col.tdiv (s.rc+2)*s.rc+lc s col-1
theorem DY{s:Sz}{row col:Int}(hs:SzOK s)(hlo:lo<=H.length)(h0:0<=row)(h1:row<=200)(h2:0<=col)(h3:col<=200) :
  Ev cp lo 79 [s.val,.int .i64 row,.int .i64 col] H (fun v H'=>Ext H H'/\v=.agg #[.bool (fk s row col),.bool (qg s row col),.int .i64 (eO s row col)]):=by
 have hb:=kp hs;have hs':=hs;obtain⟨r0,r1,c0,c1,rr0,rr1,rc0,rc1,_⟩:=hs';have m1:=eM (a:=row) (m:=s.rr+2) byO byO;have m2:=eM (a:=col) (m:=s.rc+2) byO byO;have e1:s.rr+2-1=s.rr+1:=byO;have e2:s.rc+2-1=s.rc+1:=byO;have er:row.tmod (s.rr+2)=lr s row:=rfl;have ec:col.tmod (s.rc+2)=lc s col:=rfl;rw[er]at m1;rw[ec]at m2;refine stG rfl rfl ?_;unfold NX;simp only[kB,aB];refine aU ?_;by_cases k1:(decide (lc s col=0) || decide (lr s row=s.rr+1))=true
 ·refine cJ ?_ ?_<;>intro h
  ·clear h
   refine aU ?_;refine dU ?_;refine⟨Ext.app _ _,?_⟩;simp[aM,fk,qg,eO,k1]
  ·cases h
 have k1':(decide (lc s col=0) || decide (lr s row=s.rr+1))=false:=by simpa using k1
 refine cJ ?_ ?_<;>intro h
 ·cases h
 clear h;have a1:¬ lc s col=0:=by intro e;simp[e]at k1'
 have a2:¬ lr s row=s.rr+1:=by intro e;simp[e]at k1'
 clear k1 k1';(try simp only[aB]);refine cJ ?_ ?_<;>intro h
 ·have k2:lr s row=0:=by simpa using h
  clear h;refine aU ?_;refine dU ?_;refine⟨Ext.app _ _,?_⟩;have a3:¬ (0:Int)=s.rr+1:=byO;simp[aM,fk,qg,eO,a1,a3,k2]
 have k2:¬ lr s row=0:=by simpa using h
 clear h;(try simp only[aB]);refine cJ ?_ ?_<;>intro h
 ·have k3:lc s col=s.rc+1:=by simpa using h
  clear h;refine aU ?_;refine dU ?_;refine⟨Ext.app _ _,?_⟩;have a3:¬ s.rc+1=0:=byO;simp[aM,fk,qg,eO,a2,k2,k3,a3]
 have k3:¬ lc s col=s.rc+1:=by simpa using h
 clear h;(try simp only[aB]);refine dH ?_;refine aA (sg (s:=s) hs) ?_;rintro v H3 ⟨hx3,rfl⟩;have g0:H3.get H.length=some _:=hx3.get jS;have g1:H3.get (H.length+1)=some _:=hx3.get jS;have hl3:=hx3.1;simp only[as₀,ak₀,an₀]at hl3;have t1:=lp (a:=row) (b:=s.rr+2) byO byO;have t2:=lp (a:=col) (b:=s.rc+2) byO byO;have u1:=dF (a:=row.tdiv (s.rr+2)) (b:=s.rr) (A:=200) (B:=200) byO byO byO byO byO;have u2:=dF (a:=col.tdiv (s.rc+2)) (b:=s.rc) (A:=200) (B:=200) byO byO byO byO byO;have u3:=dF (a:=row.tdiv (s.rr+2)*s.rr+lr s row-1) (b:=ez s) (A:=50000) (B:=40000) byO byO byO byO byO;have hx0:=hx3.of_app;refine aU ?_;refine dU ?_;refine⟨hx0.set byO,?_⟩;simp[aM,fk,qg,eO,a1,a2,k2,k3]
theorem J0{a b:Sz}:aj [1,1,1,1,1,1,1] a.cells b.cells=some (decide (a=b)):=by
 cases a;cases b;simp[Sz.cells,aj,jN];rw[Bool.eq_iff_iff];simp
def Words(H:Heap)(v:Value)(ws:List Int):Prop:=(v=.slice none 0 0/\ws=[])\/∃b cap xs,v=.slice (some ⟨b,0,none⟩) ws.length cap/\H.get b=some (bN xs)/\(∀i,i<ws.length->xs.getD i 0=ws.getD i 0)/\ws.length<=xs.length
theorem Words.mono{H H':Heap}{v:Value}{ws:List Int}(h:Words H v ws)(e:Ext H H'):Words H' v ws:=by
 rcases h with h|⟨b,cap,xs,h1,h2,h3⟩
 ·exact .inl h
 ·exact .inr ⟨b,cap,xs,h1,e.get h2,h3⟩
structure SizeOrd (s:Sz)(gf:G):Prop where
 ord:wL (gh s) (ez s)=some gf
 dim:Dim (gh s) (ez s)
 od:Ordered (gh s*ez s).toNat (s.d+s.k).toNat gf.cells
 loc:∀i:Nat,(i:Int)<s.r*s.c->fk s ((i:Int).tdiv s.c) ((i:Int).tmod s.c)=false->0<=eO s ((i:Int).tdiv s.c) ((i:Int).tmod s.c)/\eO s ((i:Int).tdiv s.c) ((i:Int).tmod s.c)<gh s*ez s
open Go.Abs Go.RS
set_option maxRecDepth 20000
def Dz.sz(z:Dz):Sz:=⟨z.a,z.b,z.ra,z.rb,z.d,z.c,z.n⟩
theorem M0:szs=(List.range 30).map fun i=>(dz i).sz:=by kernel_rfl
theorem ll{s:Sz}:s ∈ szs↔∃i,i<30/\s=(dz i).sz:=by
 rw[M0,List.mem_map];constructor
 ·rintro⟨i,hi,rfl⟩;exact⟨i,List.mem_range.1 hi,rfl⟩
 ·rintro⟨i,hi,rfl⟩;exact⟨i,List.mem_range.2 hi,rfl⟩
theorem MV(hlo:lo<=H.length):Ev cp lo 55 [] H (fun v H'=>∃j,H.length<=j/\v=.slice (some ⟨j,0,none⟩) 30 30/\H'.get j=some szCells/\Ext H H'):=zq hlo
theorem MW(hlo:lo<=H.length):Ev cp lo 26 [] H (fun v H'=>∃j,H.length<=j/\v=.slice (some ⟨j,0,some 7⟩) 30 30/\H'.get j=some szCells/\Ext H H'):=zr hlo
theorem uj{a b:Sz}:a=b↔a.r=b.r/\a.c=b.c/\a.rr=b.rr/\a.rc=b.rc/\a.d=b.d/\a.k=b.k/\a.b=b.b:=by
 cases a;cases b;simp
theorem index{j:Nat}{s:Sz}(hg:H.get j=some szCells):Ev cp lo 99 [.slice (some ⟨j,0,none⟩) 30 30,s.val] H (fun v H'=>Ext H H'/\∃k:Int,v=.int .i64 k/\decide (0<=k)=decide (s ∈ szs)):=by
 have hj:=Heap.get_lt hg;refine stG rfl rfl ?_;unfold Nc;simp only[kB,aB];refine oV ?_;refine aY (fun m S H'=>∃(i:Int) (x4:Value),0<=i/\i<=30/\m=(30-i).toNat/\S=[.slice (some ⟨j,0,none⟩) 30 30,s.val,.pointer (some ⟨H.length,0,none⟩),.int .i64 0,x4,.int .i64 30,.int .i64 i]/\H'=H++[some s.cells]/\¬ s ∈ szs.take i.toNat) 30 ?_ ?_
 ·exact⟨0,_,byO,byO,byO,rfl,rfl,by simp⟩
 rintro m S H2 ⟨i,x4,hi0,hi1,rfl,rfl,rfl,hno⟩;(try simp only[aB]);refine Hb ?_ ?_<;>intro h
 ·have hi:i<30:=by simpa using h
  clear h;have hrow:=gH (i:=i.toNat) byO;have hlen:=gY;have hse:=J0 (a:=s) (b:=bZ i.toNat);simp only[Sz.cells]at hse;have hmem:=an (i:=i.toNat) byO;refine oV ?_;refine Hb ?_ ?_<;>intro h
  ·have he:s=bZ i.toNat:=by rw[uj];simpa using h
   clear h;refine oV ?_;refine FA ?_;refine⟨Ext.app _ _,i,rfl,?_⟩;rw[he];simp[hmem,hi0]
  ·have he:¬ s=bZ i.toNat:=by rw[uj];simpa using h
   clear h;refine oV ?_;simp only[ak];refine⟨(30-(i+1)).toNat,byO,i+1,_,byO,byO,rfl,rfl,by trivial,?_⟩;rw[show(i+1).toNat=i.toNat+1 by omega,iG byO];intro hm;rcases List.mem_append.1 hm with hm|hm
   ·exact hno hm
   ·simp at hm;exact he hm
 ·obtain rfl:i=30:=by simp at h;omega
  clear h;refine oV ?_;refine FA ?_;refine⟨Ext.app _ _,-1,rfl,?_⟩;rw[List.take_of_length_le (by rw[gP];omega)]at hno;simp[hno]
theorem contains{j:Nat}{s:Sz}(hg:H.get j=some szCells):Ev cp lo 54 [.slice (some ⟨j,0,none⟩) 30 30,s.val] H (fun v H'=>Ext H H'/\v=.bool (decide (s ∈ szs))):=by
 have hj:=Heap.get_lt hg;refine stG rfl rfl ?_;unfold NH;simp only[kB,aB];refine oV ?_;refine QG ?_;refine aA (index (s:=s) (j:=j) He) ?_;rintro v H1 ⟨hx,k,rfl,hk⟩;refine oV ?_;refine FA ?_;exact⟨hx.of_app,by simp only[aM,hk]⟩
theorem M5{s:Sz}(hlo:lo<=H.length):Ev cp lo 31 [s.val] H (fun v H'=>Ext H H'/\v=.bool (decide (s ∈ szs))):=by
 refine stG rfl rfl ?_;unfold Mu;simp only[kB,aB];refine oV ?_;generalize hG:H++_=G at *;obtain⟨g0,hxG⟩:=bV hG;clear hG;have hlG:=hxG.1;refine QG ?_;refine aA (MW byO) ?_;rintro v H1 ⟨j,hj,rfl,hg,hx1⟩;have g0:=hx1.get g0;have hx1:=hxG.trans hx1;have hj2:=Heap.get_lt hg;refine oV ?_;refine aY (fun m S H'=>∃(i:Int) (x5:Value),0<=i/\i<=30/\m=(30-i).toNat/\S=[s.val,.pointer (some ⟨H.length,0,none⟩),.bool false,.slice (some ⟨j,0,some 7⟩) 30 30,.int .i64 i,x5]/\H1=H'/\¬ s ∈ szs.take i.toNat) 30 ?_ ?_
 ·exact⟨0,_,byO,byO,byO,rfl,rfl,by simp⟩
 rintro m S H2 ⟨i,x4,hi0,hi1,rfl,rfl,rfl,hno⟩;(try simp only[aB]);refine Hb ?_ ?_<;>intro h
 ·have hi:i<30:=by simpa using h
  clear h;have hrow:=gH (i:=i.toNat) byO;have hlen:=gY;have hse:=J0 (a:=bZ i.toNat) (b:=s);have hgs:(bZ i.toNat).cells=[.int .i64 (bZ i.toNat).r,.int .i64 (bZ i.toNat).c,.int .i64 (bZ i.toNat).rr,.int .i64 (bZ i.toNat).rc,.int .i64 (bZ i.toNat).d,.int .i64 (bZ i.toNat).k,.int .i64 (bZ i.toNat).b]:=rfl;simp only[Sz.cells]at hse;clear hgs;have hmem:=an (i:=i.toNat) byO;refine oV ?_;refine Hb ?_ ?_<;>intro h
  ·have he:bZ i.toNat=s:=by rw[uj];simpa using h
   clear h;refine oV ?_;refine FA ?_;refine⟨hx1,?_⟩;rw[<-he];simp[hmem,aM]
  ·have he:¬ bZ i.toNat=s:=by rw[uj];simpa using h
   clear h;refine oV ?_;simp only[ak];refine⟨(30-(i+1)).toNat,byO,i+1,_,byO,byO,rfl,rfl,by trivial,?_⟩;rw[show(i+1).toNat=i.toNat+1 by omega,iG byO];intro hm;rcases List.mem_append.1 hm with hm|hm
   ·exact hno hm
   ·simp at hm;exact he hm.symm
 ·obtain rfl:i=30:=by simp at h;omega
  clear h;refine oV ?_;refine FA ?_;refine⟨hx1,?_⟩;rw[List.take_of_length_le (by rw[gP];omega)]at hno;simp[hno,aM]
end Go.Proofs.YtmnlgdpdgjbfgaaGreat
namespace Go.Proofs.YtmnlgdpdgjbfgaaGreat
open Go.Abs Go.RS
variable{i:Nat}
def iz(s:Sz)(l:List Int)(n:Int):Int:=if ¬ s ∈ szs then 14 else if (l.length:Int)≠n then 7 else if inF 256 l=true then 0 else 3
section
variable {lo:Nat}{H:Heap}{s:Sz}
theorem yY{l:List Int}(hi:i<l.length)(h:inF 256 l=true):0<=l.getD i 0/\l.getD i 0<=255:=by
 have:=(lS (sz:=256)).1 h (l.getD i 0) (by rw[au₀,bb₀ hi];exact List.getElem_mem hi);omega
theorem vn{l:List Int}(hi:i<l.length)(hin:inF 256 (l.take i)=true)(h0:0<=l.getD i 0)(h1:l.getD i 0<=255):inF 256 (l.take (i+1))=true:=by
 have hs:=gK (p:=fun x=>!(decide (x<0) || decide ((256:Int)<=x))) hi;unfold inF at hin ⊢;rw[hs,hin];simp only[Bool.true_and,Bool.not_eq_true',Bool.or_eq_false_iff,ai₀];omega
namespace XYd
def xtr:=zzi @Int.cast_ofNat_Int (zzi @fv.eq_1 (zzi @fvf.eq_1 (zzi @ite_self.{1} (zzi @ic (zzi @iZ (zzi @iY (zzi @cdC.eq_1 (zzi @arC.eq_1 @Sz.cells.eq_1))))))))
end XYd
open XYd
theorem KX{v:Value}{l:List Int}{n:Int}(hl:SlI H v l)(hll:l.length<=1000000000)(hlo:lo<=H.length):Ev cp lo 27 [v,s.val,.int .i64 n] H (fun r H'=>Ext H H'/\r=.int .i64 (iz s l n)):=by
 have hl0:=hl;obtain⟨ad,c,rfl⟩:=hl.len;refine stG rfl rfl ?_;unfold Mr;simp only[kB,aB];refine aC ?_;generalize hG:H++_=G at *;obtain⟨g0,hxG⟩:=bV hG;clear hG;have hlG:=hxG.1;refine aQ ?_;refine aN (MV (Nat.le_refl _)) ?_;rintro r H1 ⟨j,hj,rfl,hg,hx1⟩;have g0:=hx1.get g0;have hx1:=hxG.trans hx1;(try simp only[aB]);refine aQ ?_;refine fV (first:=#[]) (cap:=#[]) (args:=[.slice (some ⟨j,0,none⟩) 30 30,s.val]) (contains (s:=s) hg) ?_;rintro r H2 ⟨hx2,rfl⟩;have hx2:=hx1.trans hx2;clear hg hj hx1 g0;have hl2:=hx2.1;(try simp only[aB]);by_cases hs:s ∈ szs
 case neg=>
  have he:iz s l n=14:=if_pos hs;rw[he];refine aS ?_ ?_<;>intro h
  case refine_2=>exfalso;simp[hs]at h
  clear h;refine aC ?_;refine aT ?_;exact⟨hx2,rfl⟩
 have he:iz s l n=if (l.length:Int)≠n then 7 else if inF 256 l=true then 0 else 3:=if_neg (fun h=>h hs)
 rw[he];clear he;refine aS ?_ ?_<;>intro h
 ·exfalso;simp[hs]at h
 clear h;(try simp only[aB]);by_cases hn:(l.length:Int)=n
 case neg=>
  rw[if_pos hn];refine aS ?_ ?_<;>intro h
  case refine_2=>exfalso;simp at h;exact hn h
  clear h;refine aC ?_;refine aT ?_;exact⟨hx2,rfl⟩
 rw[if_neg (fun h=>h hn)];subst hn;refine aS ?_ ?_<;>intro h
 ·simp at h
 clear h;refine aC ?_;refine aa (fun i S H'=>H2=H'/\inF 256 (l.take i)=true/\∃(z:Nat->Value),S=[z 0,z 1,z 2,z 3,z 4,z 5,z 6,z 7,z 8,.slice ad l.length c,.int .i64 (l.length:Nat),.int .i64 (i:Nat)]) l.length ?_ ?_ ?_ ?_
 ·exact⟨rfl,rfl,aR rfl⟩
 ·rintro i S H' hi ⟨rfl,-,z,rfl⟩
  exact⟨_,aW,by simp⟩
 ·rintro i S H' hi ⟨rfl,hin,z,rfl⟩
  obtain⟨b,o,sp,cap,xs,e,gx,hat,hxl⟩:=(hl0.mono hx2).els 0 byO;cases e;have hati:=hat i hi;have hok:=vn hi hin;clear hat;refine aC ?_;by_cases hb:0<=l.getD i 0/\l.getD i 0<=255
  ·replace hok:=hok hb.1 hb.2
   generalize l.getD i 0=y at *;refine aS ?_ ?_<;>intro h
   ·exfalso;simp at h;omega
   clear h;refine aC ?_;exact⟨by trivial,hok,aR ncM⟩
  ·have hno:¬ inF 256 l=true:=fun h=>hb (yY hi h)
   rw[if_neg hno];clear hok hin hno;generalize l.getD i 0=y at *;refine aS ?_ ?_<;>intro h
   case refine_2=>exfalso;simp at h;omega
   clear h;refine aC ?_;refine aT ?_;exact⟨hx2,rfl⟩
 ·rintro S H' ⟨rfl,hin,z,rfl⟩
  rw[List.take_of_length_le (Nat.le_refl _)]at hin;rw[if_pos hin];refine aC ?_;refine aT ?_;exact⟨hx2,rfl⟩
theorem KU{v:Value}{l:List Int}(hl:SlI H v l)(hll:l.length<=1000000000):Ev cp lo 32 [v] H (fun r H'=>H=H'/\r=.bool (inF 256 l)):=by
 have hl0:=hl;obtain⟨ad,c,rfl⟩:=hl.len;refine stG rfl rfl ?_;unfold Mw;simp only[kB,aB];refine aC ?_;refine aa (fun i S H'=>H=H'/\inF 256 (l.take i)=true/\∃(z:Nat->Value),S=[.slice ad l.length c,z 1,.int .i64 (i:Nat)]) l.length ?_ ?_ ?_ ?_
 ·exact⟨rfl,rfl,aR rfl⟩
 ·rintro i S H' hi ⟨rfl,-,z,rfl⟩
  exact⟨_,aW,by simp⟩
 ·rintro i S H' hi ⟨rfl,hin,z,rfl⟩
  obtain⟨b,o,sp,cap,xs,e,gx,hat,hxl⟩:=hl0.els 0 byO;cases e;have hati:=hat i hi;have hok:=vn hi hin;clear hat;(try simp only[aB]);by_cases hb:0<=l.getD i 0/\l.getD i 0<=255
  ·replace hok:=hok hb.1 hb.2
   generalize l.getD i 0=y at *;refine aS ?_ ?_<;>intro h
   ·exfalso;simp at h;omega
   clear h;refine aC ?_;exact⟨by trivial,hok,aR ncM⟩
  ·have hno:inF 256 l=false:=by
    rw[Bool.eq_false_iff];exact fun h=>hb (yY hi h)
   rw[hno];clear hok hin hno;generalize l.getD i 0=y at *;refine aS ?_ ?_<;>intro h
   case refine_2=>exfalso;simp at h;omega
   clear h;refine aC ?_;refine aT ?_;exact⟨rfl,rfl⟩
 ·rintro S H' ⟨rfl,hin,z,rfl⟩
  rw[List.take_of_length_le (Nat.le_refl _)]at hin;rw[hin];refine aC ?_;refine aT ?_;exact⟨rfl,rfl⟩
theorem FQ(hlo:lo<=H.length):Ev cp lo 56 [.int .i64 8,.int .i64 301] H (fun r H'=>Ext H H'/\r=.tuple #[fv 2 256 301,.int .i64 0]):=by
 have hsh:IntKind.i64.wrap (1*2^(min (8:Int).toNat IntKind.i64.bits))=256:=by decide
 refine stG rfl rfl ?_;unfold NI;simp only[kB,aB];refine aC ?_;refine aS ?_ ?_<;>intro h
 ·simp at h
 clear h;refine aC ?_;generalize hG:H++_=G at *;obtain⟨g0,hxG⟩:=bV hG;have g1:Heap.get G (H.length+1)=some [Value.int .i64 2,Value.int .i64 256,Value.int .i64 301]:=by rw[<-hG,bI];rfl
 clear hG;refine aQ ?_;refine aA (valid (ch:=2) (sz:=256) (po:=301) (by decide)) ?_;rintro r H1 ⟨hx1,t,rfl,ht⟩;have htt:t=true:=ht.2 ⟨_,xy⟩;subst htt;clear ht;have g0:=(hx1).get g0;have g1:=(hx1).get g1;have hx1:=hxG.trans hx1;have hl1:=Heap.get_lt g1;(try simp only[aB]);refine aS ?_ ?_<;>intro h
 ·cases h
 clear h;refine aC ?_;refine aT ?_;exact⟨hx1.set byO,rfl⟩
end
open XYd
section
variable {lo:Nat}{H:Heap}
theorem Nm(hi:i<30)(hlo:lo<=H.length):Ev cp lo 28 [(dz i).sz.val] H (fun r H'=>Ext H H'/\r=.tuple #[cdV (fB 301) (dz i).ck 1,.int .i64 0]):=by
 have hz:=oa hi;generalize dz i=z at *;obtain⟨n1,n2,dn,d2,c2,-,k1,k2,al⟩:=hz;have hok:mq 2 256 301 (z.ck:Nat) 1:=⟨⟨_,xy⟩,byO,byO,byO,byO⟩;have hdiv:(z.c:Int).tdiv (z.n:Int)=(z.ck:Nat):=(Int.ofNat_tdiv z.c z.n).symm;unfold Dz.sz Sz.val;refine stG rfl rfl ?_;unfold Ms;simp only[kB,aB];refine aC ?_;generalize hG:H++_=G at *;obtain⟨g0,hxG⟩:=bV hG;have g1:Heap.get G (H.length+1)=some (List.replicate 5 (Value.int .i64 0)):=by rw[<-hG,bI];rfl
 clear hG;have hlG:=Heap.get_lt g1;refine aQ ?_;refine aA (FQ byO) ?_;rintro r H1 ⟨hx1,rfl⟩;have g0:=(hx1).get g0;have g1:=(hx1).get g1;have hx1:=hxG.trans hx1;have hl1:=Heap.get_lt g1;unfold fv;refine aC ?_;generalize hG:H1++_=G1 at *;obtain⟨g2,hxG1⟩:=bV hG;clear hG;have g0:=(hxG1).get g0;have g1:=(hxG1).get g1;have hx2:=hx1.trans hxG1;have hl2:=hx2.1;refine aS ?_ ?_<;>intro h
 ·cases h
 clear h;(try simp only[aB]);refine aQ ?_;refine fV (first:=#[]) (cap:=#[]) (args:=[fv 2 256 301,.int .i64 (z.ck:Nat),.int .i64 1]) (RT (ch:=2) (sz:=256) (po:=301) (r:=(z.ck:Nat)) (b:=1) byO byO) ?_;rintro r H3 ⟨hx3,-,-,hv⟩;rw[hv hok];clear hv;have g0:=(hx3).get g0;have g1:=(hx3).get g1;have hx3:=hx2.trans hx3;have hl3:=Heap.get_lt g1;unfold cdI;refine aC ?_;refine aT ?_;exact⟨hx3.set byO,rfl⟩
theorem tH{l:List Int}{n x k:Nat}(hx:x<n)(hk:k<cnt l.length n x):(lC l 0 n x).take (k+1)=(lC l 0 n x).take k++[l.getD (x+k*n) 0]:=by
 rw[List.take_add_one];congr 1;unfold lC;rw[az₀,List.getElem?_range hk];rfl
end
end Go.Proofs.YtmnlgdpdgjbfgaaGreat
namespace Go.Proofs.YtmnlgdpdgjbfgaaGreat
open Go.Abs Go.RS
section
variable {lo:Nat}{H:Heap}
theorem step_eq(x k n:Nat):((x+k*n:Nat):Int)+(n:Nat)=((x+(k+1)*n:Nat):Int):=by
 have:=Nat.succ_mul k n;rw[show(k+1)*n=k*n+n from this];omega
theorem yf{N n x:Nat}(hx:x<n):cnt N n x<=N:=by
 apply Nat.le_of_not_lt;intro h;rw[eC hx]at h;have:=Nat.le_mul_of_pos_right N (show 0<n by omega);omega
open XMDc
theorem KR{v:Value}{l:List Int}{n x:Nat}(hl:SlI H v l)(hll:l.length<=1000000000)(hx:x<n)(hn:n<=1000)(hlo:lo<=H.length):Ev cp lo 30 [v,.int .i64 (n:Nat),.int .i64 (x:Nat)] H (fun r H'=>Ext H H'/\SlI H' r (lC l 0 n x)):=by
 have hl0:=hl;obtain⟨ad,c,rfl⟩:=hl.len;refine stG rfl rfl ?_;unfold Mt;simp only[kB,aB];refine aC ?_;have e0:((x:Nat):Int)=((x+0*n:Nat):Int):=by simp
 refine aa (fun k S H'=>Ext H H'/\∃(vo:Value) (bo:Nat),Own H.length 1 H' vo bo (bN ((lC l 0 n x).take k))/\∃(z:Nat->Value),S=[.slice ad l.length c,.int .i64 (n:Nat),z 2,z 3,vo,.int .i64 (x+k*n:Nat),z 6,z 7,z 8]) (cnt l.length n x) ?_ ?_ ?_ ?_
 ·exact⟨Ext.refl _,_,_,Own.nil (Nat.le_refl _),aR (by simp only[Nat.zero_mul,Nat.add_zero];rfl)⟩
 ·rintro k S H' hk ⟨hx1,vo,bo,-,z,rfl⟩
  exact⟨_,aW,by rw[eC hx];simp only[af₀];omega⟩
 ·rintro k S H2 hk ⟨hx2,vo,bo,oo,z,rfl⟩
  have hl2:=hx2.1;have hkl:=(eC hx).1 hk;have hcl:((lC l 0 n x).take k).length<=1000000000:=by
   rw[List.length_take,lD];have:=yf (N:=l.length) hx;omega
  have hsn:=tH (l:=l) hx hk;have hse:=step_eq x k n;obtain⟨xb,xo,xsp,xc,xs,e1,g1,f1,_⟩:=(hl0.mono hx2).els 0 byO;cases e1;have k1:=f1 _ hkl;have hxg:=Heap.get_lt g1;clear f1 e0;rw[hsn];clear hsn;generalize (lC l 0 n x).take k=acc at *;generalize x+k*n=p at *;generalize x+(k+1)*n=p' at *;generalize l.getD p 0=y at *;replace hse:False\/_:=.inr hse;refine aC ?_;refine aQ ?_;refine dG (b:=bo) (cells:=bN acc) (c:=bN [y]) ((oo.mono (Ext.app _ _)).lower byO) (by simp;omega) byO byO (by rw[gT];omega) aK (by simp) rfl rfl ?_;rw[<-kj];intro vo' H3 oo' hk3 hl3;have hx3:=hk3.ext (hx2.trans (Ext.app H2 _)) oo.1;refine aC ?_;exact⟨hx3,vo',_,⟨by simp;omega,oo'.2⟩,aR (by rw[hse.resolve_left id];rfl)⟩
 ·rintro S H2 ⟨hx2,vo,bo,oo,z,rfl⟩
  rw[List.take_of_length_le (by rw[lD];exact Nat.le_refl _)]at oo;refine aC ?_;refine aT ?_;exact⟨hx2,Sl.ofOwn oo⟩
theorem KS{v:Value}{l:List Int}{n x:Nat}(hl:SlI H v l)(hll:l.length<=1000000000)(hx:x<n)(hn:n<=1000)(hlo:lo<=H.length):Ev cp lo 35 [v,.int .i64 (x:Nat),.int .i64 (n:Nat)] H (fun r H'=>Ext H H'/\SlI H' r (lC l 0 n x)):=by
 have hl0:=hl;obtain⟨ad,c,rfl⟩:=hl.len;refine stG rfl rfl ?_;unfold My;simp only[kB,aB];refine aC ?_;have e0:((x:Nat):Int)=((x+0*n:Nat):Int):=by simp
 refine aa (fun k S H'=>Ext H H'/\∃(vo:Value) (bo:Nat),Own H.length 1 H' vo bo (bN ((lC l 0 n x).take k))/\∃(z:Nat->Value),S=[.slice ad l.length c,z 1,.int .i64 (n:Nat),z 3,vo,.int .i64 (x+k*n:Nat),z 6,z 7,z 8]) (cnt l.length n x) ?_ ?_ ?_ ?_
 ·exact⟨Ext.refl _,_,_,Own.nil (Nat.le_refl _),aR (by simp only[Nat.zero_mul,Nat.add_zero];rfl)⟩
 ·rintro k S H' hk ⟨hx1,vo,bo,-,z,rfl⟩
  exact⟨_,aW,by rw[eC hx];simp only[af₀];omega⟩
 ·rintro k S H2 hk ⟨hx2,vo,bo,oo,z,rfl⟩
  have hl2:=hx2.1;have hkl:=(eC hx).1 hk;have hcl:((lC l 0 n x).take k).length<=1000000000:=by
   rw[List.length_take,lD];have:=yf (N:=l.length) hx;omega
  have hsn:=tH (l:=l) hx hk;have hse:=step_eq x k n;obtain⟨xb,xo,xsp,xc,xs,e1,g1,f1,_⟩:=(hl0.mono hx2).els 0 byO;cases e1;have k1:=f1 _ hkl;have hxg:=Heap.get_lt g1;clear f1 e0;rw[hsn];clear hsn;generalize (lC l 0 n x).take k=acc at *;generalize x+k*n=p at *;generalize x+(k+1)*n=p' at *;generalize l.getD p 0=y at *;replace hse:False\/_:=.inr hse;refine aC ?_;refine aQ ?_;refine dG (b:=bo) (cells:=bN acc) (c:=bN [y]) ((oo.mono (Ext.app _ _)).lower byO) (by simp;omega) byO byO (by rw[gT];omega) aK (by simp) rfl rfl ?_;rw[<-kj];intro vo' H3 oo' hk3 hl3;have hx3:=hk3.ext (hx2.trans (Ext.app H2 _)) oo.1;refine aC ?_;exact⟨hx3,vo',_,⟨by simp;omega,oo'.2⟩,aR (by rw[hse.resolve_left id];rfl)⟩
 ·rintro S H2 ⟨hx2,vo,bo,oo,z,rfl⟩
  rw[List.take_of_length_le (by rw[lD];exact Nat.le_refl _)]at oo;refine aC ?_;refine aT ?_;exact⟨hx2,Sl.ofOwn oo⟩
end
end Go.Proofs.YtmnlgdpdgjbfgaaGreat
