/- Lemmas. -/
import Derived.Test.YtmnlgdpdgjbfgaaGreatF10
import Derived.Test.YtmnlgdpdgjbfgaaGreatF18
import Derived.Test.YtmnlgdpdgjbfgaaGreatF19
import Derived.Test.YtmnlgdpdgjbfgaaGreatF22
import Derived.Test.YtmnlgdpdgjbfgaaGreatF23
set_option linter.all false
namespace Go.Proofs.YtmnlgdpdgjbfgaaGreat
open Go.Abs Go.RS
variable{H:Heap}{lo:Nat}{i:Nat}
set_option maxRecDepth 20000
section
variable {lo:Nat}{H:Heap}{ch sz po r b:Int}
open XSa
theorem Ui(hlo:lo<=H.length)(hb:po<=9223372036854775807):Ev cp lo 57 [fv ch sz po,.int .i64 r,.int .i64 b] H (fun v H'=>Ext H H'/\((¬ ∃f,OkF ch sz po f)->v=.tuple #[cdI 0 0 0 0 0,.int .i64 1])/\((∃f,OkF ch sz po f)->¬ ng ch sz po r b->v=.tuple #[cdI 0 0 0 0 0,.int .i64 3])/\(ng ch sz po r b->v=.tuple #[cdI ch sz po r b,.int .i64 0])):=by
 unfold fv;refine stG rfl rfl ?_;unfold QX;simp only[kB,aD];refine aA ?_;refine aT ?_;refine aC (valid (ch:=ch) (sz:=sz) (po:=po) hb) ?_;rintro v H1 ⟨hx1,t1,rfl,ht1⟩;have g0:H1.get H.length=some _:=hx1.get aN;have g1:H1.get (H.length+1)=some _:=hx1.get aN;have hx1:=hx1.of_app;have hl1:=Heap.get_lt g1;cases t1 with
 | false=>
  have hno:¬ ∃f,OkF ch sz po f:=fun h=>by have:=ht1.2 h;cases this
  (try simp only[aD]);refine aP ?_ ?_<;>intro h
  case refine_2=>cases h
  clear h;refine aA ?_;refine aK ?_;exact⟨hx1.set byO,fun _=>rfl,fun h=>absurd h hno,fun h=>absurd h.1 hno⟩
 | true=>
  have hf:=ht1.1 rfl;have hsz:=wE hf;(try simp only[aD]);refine an ?_;refine bF ?_;refine aC (fits (ch:=ch) (sz:=sz) (po:=po) (r:=r) (b:=b) byO byO) ?_;rintro v H2 ⟨hx2,rfl⟩;have g0:=(hx2).get g0;have g1:=(hx2).get g1;have hx2:=hx1.trans hx2;have hl2:=Heap.get_lt g1;generalize ht2:(((decide (1<=r)&&decide (r<=sz-2))&&decide (0<=b))&&decide (b<=sz-2))=t2;have ht2':t2=true↔1<=r/\r<=sz-2/\0<=b/\b<=sz-2:=by
   rw[<-ht2];simp only[ac₀,af₀];omega
  clear ht2;cases t2 with
  | false=>
   have hno:¬ ng ch sz po r b:=fun h=>by have:=ht2'.2 h.2;cases this
   (try simp only[aD]);refine aP ?_ ?_<;>intro h
   case refine_2=>cases h
   clear h;refine aA ?_;refine aK ?_;exact⟨hx2.set byO,fun h=>absurd hf h,fun _ _=>rfl,fun h=>absurd h hno⟩
  | true=>
   have hok:ng ch sz po r b:=⟨hf,ht2'.1 rfl⟩;(try simp only[aD]);refine an ?_;refine aA ?_;refine aK ?_;exact⟨hx2.set byO,fun h=>absurd hf h,fun _ h=>absurd hok h,fun _=>rfl⟩
end
def szT:List (List Nat):=[[10,10,8,8,3,5,1],[12,12,10,10,5,7,1],[14,14,12,12,8,10,1],[16,16,14,14,12,12,1],[18,18,16,16,18,14,1],[20,20,18,18,22,18,1],[22,22,20,20,30,20,1],[24,24,22,22,36,24,1],[26,26,24,24,44,28,1],[32,32,14,14,62,36,1],[36,36,16,16,86,42,1],[40,40,18,18,114,48,1],[44,44,20,20,144,56,1],[48,48,22,22,174,68,1],[52,52,24,24,204,84,2],[64,64,14,14,280,112,2],[72,72,16,16,368,144,4],[80,80,18,18,456,192,4],[88,88,20,20,576,224,4],[96,96,22,22,696,272,4],[104,104,24,24,816,336,6],[120,120,18,18,1050,408,6],[132,132,20,20,1304,496,8],[144,144,22,22,1558,620,10],[8,18,6,16,5,7,1],[8,32,6,14,10,11,1],[12,26,10,24,16,14,1],[12,36,10,16,22,18,1],[16,36,14,16,32,24,1],[16,48,14,22,49,28,1]]
structure Dz where
 a:Nat
 b:Nat
 ra:Nat
 rb:Nat
 d:Nat
 c:Nat
 n:Nat
def Tv(r:List Nat):Dz:=⟨r.getD 0 0,r.getD 1 0,r.getD 2 0,r.getD 3 0,r.getD 4 0,r.getD 5 0,r.getD 6 0⟩
def dz(i:Nat):Dz:=Tv (szT.getD i [])
def Dz.ck(z:Dz):Nat:=z.c/z.n
def Dz.cells(z:Dz):List Int:=[(z.a:Int),(z.b:Int),(z.ra:Int),(z.rb:Int),(z.d:Int),(z.c:Int),(z.n:Int)]
structure Dz.Ok (z:Dz):Prop where
 n1:1<=z.n
 n2:z.n<=10
 dn:z.n<=z.d
 d2:z.d<=1558
 c2:z.c<=620
 cn:z.c=z.n*z.ck
 k1:1<=z.ck
 k2:z.ck<=68
 all:z.d+z.c<=250*z.n
theorem uA(hi:i<30):(dz i).Ok:=by
 have h:∀i,i<30->(1<=(dz i).n/\(dz i).n<=10/\(dz i).n<=(dz i).d/\(dz i).d<=1558/\(dz i).c<=620/\(dz i).c=(dz i).n*(dz i).ck/\1<=(dz i).ck/\(dz i).ck<=68/\(dz i).d+(dz i).c<=250*(dz i).n):=by decide +kernel
 obtain⟨a,b,c,d,e,f,g,h,i⟩:=h i hi;exact⟨a,b,c,d,e,f,g,h,i⟩
def cnt(N n x:Nat):Nat:=(N+n-1-x)/n
theorem fT{N n x k:Nat}(hx:x<n):k<cnt N n x↔x+k*n<N:=by
 unfold cnt;rw[Nat.lt_iff_add_one_le,Nat.le_div_iff_mul_le byO,Nat.add_mul,Nat.one_mul];omega
theorem IL{N n x k:Nat}(hx:x<n):cnt (N+n*k) n x=cnt N n x+k:=by
 unfold cnt;rw[show N+n*k+n-1-x=N+n-1-x+n*k by omega,Nat.add_mul_div_left _ _ byO]
theorem xL{N n x:Nat}(hx:x<n):cnt (N+1) n x=if N%n=x then cnt N n x+1 else cnt N n x:=by
 have h:∀k,k<cnt (N+1) n x↔k<(if N%n=x then cnt N n x+1 else cnt N n x):=by
  intro k;rw[fT hx];by_cases e:N%n=x
  ·have hd:=Nat.div_add_mod N n
   have h1:cnt N n x=N/n:=by
    apply Nat.le_antisymm
    ·apply Nat.le_of_not_lt;intro h
     rw[fT hx,bb₀]at h;omega
    ·apply Nat.le_of_not_lt;intro h
     obtain⟨m,hm⟩:∃m,N/n=m+1:=⟨N/n-1,byO⟩;have:¬ m<cnt N n x:=byO;rw[fT hx,bb₀]at this;rw[hm,Nat.mul_add]at hd;omega
   rw[if_pos e,h1,Nat.lt_succ_iff];constructor
   ·intro h
    apply Nat.le_of_not_lt;intro hc;have hc:N/n+1<=k:=byO;have:=Nat.mul_le_mul_left n hc;rw[Nat.mul_add,bb₀ n k]at this;omega
   ·intro h
    have h:k<=N/n:=byO;have:=Nat.mul_le_mul_left n h;rw[bb₀ n k]at this;omega
  ·rw[if_neg e,fT hx]
   constructor
   ·intro h
    apply Nat.lt_of_le_of_ne byO;rintro rfl;apply e;rw[Nat.add_mul_mod_self_right,Nat.mod_eq_of_lt hx]
   ·omega
 apply Nat.le_antisymm
 ·apply Nat.le_of_not_lt;intro hc
  have:=(h _).1 hc;omega
 ·apply Nat.le_of_not_lt;intro hc
  have:=(h _).2 hc;omega
theorem E8{N n:Nat}(hn:0<n):cnt N n (N%n)=N/n:=by
 have hx:=Nat.mod_lt N hn;have h:=Nat.div_add_mod N n;apply Nat.le_antisymm
 ·apply Nat.le_of_not_lt;intro hc
  rw[fT hx,bb₀]at hc;omega
 ·apply Nat.le_of_not_lt;intro hc
  obtain⟨m,hm⟩:∃m,N/n=m+1:=⟨N/n-1,byO⟩;have:¬ m<cnt N n (N%n):=byO;rw[fT hx,bb₀]at this;rw[hm,Nat.mul_add]at h;omega
theorem rQ{N n j:Nat}(hn:0<n)(hj:j<N):j/n<cnt N n (j%n):=by
 rw[fT (Nat.mod_lt j hn),bb₀];have:=Nat.div_add_mod j n;omega
def fO{α:Type}(l:List α)(d:α)(n x:Nat):List α:=(List.range (cnt l.length n x)).map fun k=>l.getD (x+k*n) d
theorem jN{α:Type}(l:List α)(d:α)(n x:Nat):(fO l d n x).length=cnt l.length n x:=by simp[fO]
abbrev F1:FD:=fB 301
abbrev g1:El F1:=eB 301 2
theorem AP:OkF 2 256 301 (fB 301):=⟨OkC.ok,rfl,rfl,rfl⟩
theorem F4:Gn (OkC.ok (f:=fB 301)) (eB 301 2):=by
 refine⟨by decide,Jb bf301 Nc,fun x h1 h2 h=>?_⟩;have h3:x.val=1:=by
  have:x.val<2:=h2;omega
 have:x=eB 301 1:=El.ext h3;subst this;exact yR h
theorem BA{c:Nat}(h1:1<=c)(h2:c<=254):CdOK F1 c 1:=⟨h1,h2,by decide⟩
theorem yw(e:List (El F1))(n x:Nat):fO (en e) 0 n x=en (fO e 0 n x):=by
 unfold fO en;rw[ay₀,List.map_map];refine List.map_congr_left fun k _=>?_;simp only[Function.comp,au₀,az₀];cases e[x+k*n]?<;>rfl
noncomputable def RU(r:Nat)(d:List (El F1)):List (El F1):=@Classical.epsilon _ ⟨[]⟩ fun w=>IsEnc g1 r 1 d w
theorem BN{r:Nat}{d w:List (El F1)}(hc:CdOK F1 r 1)(h:IsEnc g1 r 1 d w):w=RU r d:=
 FI F4 hc h (@Classical.epsilon_spec _ (fun w=>IsEnc g1 r 1 d w) ⟨w,h⟩)
noncomputable def Dz.W(z:Dz)(e:List (El F1))(x:Nat):List (El F1):=RU z.ck (fO e 0 z.n x)
noncomputable def ilv(n:Nat)(W:Nat->List (El F1))(N:Nat):List Int:=(List.range N).map fun j=>(((co (W (j%n)) (j/n)).val:Nat):Int)
theorem qk(n:Nat)(W:Nat->List (El F1))(N:Nat):(ilv n W N).length=N:=by simp[ilv]
theorem Nk{n:Nat}{W:Nat->List (El F1)}{N j:Nat}(h:j<N):(ilv n W N).getD j 0=(((co (W (j%n)) (j/n)).val:Nat):Int):=by
 unfold ilv;rw[au₀,az₀,List.getElem?_range h];rfl
theorem BZ{n:Nat}{W:Nat->List (El F1)}{x k:Nat}(hx:x<n):(x+k*n)%n=x/\(x+k*n)/n=k:=by
 refine⟨?_,?_⟩
 ·rw[Nat.add_mul_mod_self_right,Nat.mod_eq_of_lt hx]
 ·rw[Nat.add_mul_div_right _ _ byO,Nat.div_eq_of_lt hx,Nat.zero_add]
def Dz.sz(z:Dz):Sz:=⟨z.a,z.b,z.ra,z.rb,z.d,z.c,z.n⟩
theorem P9:szs=(List.range 30).map fun i=>(dz i).sz:=by kernel_rfl
theorem mZ{s:Sz}:s ∈ szs↔∃i,i<30/\s=(dz i).sz:=by
 rw[P9,List.mem_map];constructor
 ·rintro⟨i,hi,rfl⟩;exact⟨i,List.mem_range.1 hi,rfl⟩
 ·rintro⟨i,hi,rfl⟩;exact⟨i,List.mem_range.2 hi,rfl⟩
theorem P2(hlo:lo<=H.length):Ev cp lo 55 [] H (fun v H'=>∃j,H.length<=j/\v=.slice (some ⟨j,0,none⟩) 30 30/\H'.get j=some szCells/\Ext H H'):=wb hlo
theorem P3(hlo:lo<=H.length):Ev cp lo 26 [] H (fun v H'=>∃j,H.length<=j/\v=.slice (some ⟨j,0,some 7⟩) 30 30/\H'.get j=some szCells/\Ext H H'):=wc hlo
theorem wi{a b:Sz}:a=b↔a.r=b.r/\a.c=b.c/\a.rr=b.rr/\a.rc=b.rc/\a.d=b.d/\a.k=b.k/\a.b=b.b:=by
 cases a;cases b;simp
theorem index{j:Nat}{s:Sz}(hg:H.get j=some szCells):Ev cp lo 99 [.slice (some ⟨j,0,none⟩) 30 30,s.val] H (fun v H'=>Ext H H'/\∃k:Int,v=.int .i64 k/\decide (0<=k)=decide (s ∈ szs)):=by
 have hj:=Heap.get_lt hg;refine stG rfl rfl ?_;unfold NA;simp only[kB,aD];refine py ?_;refine aY (fun m S H'=>∃(i:Int) (x4:Value),0<=i/\i<=30/\m=(30-i).toNat/\S=[.slice (some ⟨j,0,none⟩) 30 30,s.val,.pointer (some ⟨H.length,0,none⟩),.int .i64 0,x4,.int .i64 30,.int .i64 i]/\H'=H++[some s.cells]/\¬ s ∈ szs.take i.toNat) 30 ?_ ?_
 ·exact⟨0,_,byO,byO,byO,rfl,rfl,by simp⟩
 rintro m S H2 ⟨i,x4,hi0,hi1,rfl,rfl,rfl,hno⟩;(try simp only[aD]);refine KY ?_ ?_<;>intro h
 ·have hi:i<30:=by simpa using h
  clear h;have hrow:=gW (i:=i.toNat) byO;have hlen:=fh;have hse:=CP (a:=s) (b:=bO i.toNat);simp only[Sz.cells]at hse;have hmem:=ah (i:=i.toNat) byO;refine py ?_;refine KY ?_ ?_<;>intro h
  ·have he:s=bO i.toNat:=by rw[wi];simpa using h
   clear h;refine py ?_;refine Ho ?_;refine⟨Ext.app _ _,i,rfl,?_⟩;rw[he];simp[hmem,hi0]
  ·have he:¬ s=bO i.toNat:=by rw[wi];simpa using h
   clear h;refine py ?_;simp only[ak];refine⟨(30-(i+1)).toNat,byO,i+1,_,byO,byO,rfl,rfl,by trivial,?_⟩;rw[show(i+1).toNat=i.toNat+1 by omega,gJ byO];intro hm;rcases List.mem_append.1 hm with hm|hm
   ·exact hno hm
   ·simp at hm;exact he hm
 ·obtain rfl:i=30:=by simp at h;omega
  clear h;refine py ?_;refine Ho ?_;refine⟨Ext.app _ _,-1,rfl,?_⟩;rw[List.take_of_length_le (by rw[gI];omega)]at hno;simp[hno]
theorem contains{j:Nat}{s:Sz}(hg:H.get j=some szCells):Ev cp lo 54 [.slice (some ⟨j,0,none⟩) 30 30,s.val] H (fun v H'=>Ext H H'/\v=.bool (decide (s ∈ szs))):=by
 have hj:=Heap.get_lt hg;refine stG rfl rfl ?_;unfold My;simp only[kB,aD];refine py ?_;refine Ta ?_;refine aC (index (s:=s) (j:=j) K1) ?_;rintro v H1 ⟨hx,k,rfl,hk⟩;refine py ?_;refine Ho ?_;exact⟨hx.of_app,by simp only[aM,hk]⟩
theorem Pe{s:Sz}(hlo:lo<=H.length):Ev cp lo 31 [s.val] H (fun v H'=>Ext H H'/\v=.bool (decide (s ∈ szs))):=by
 refine stG rfl rfl ?_;unfold QF;simp only[kB,aD];refine py ?_;generalize hG:H++_=G at *;obtain⟨g0,hxG⟩:=dk hG;clear hG;have hlG:=hxG.1;refine Ta ?_;refine aC (P3 byO) ?_;rintro v H1 ⟨j,hj,rfl,hg,hx1⟩;have g0:=hx1.get g0;have hx1:=hxG.trans hx1;have hj2:=Heap.get_lt hg;refine py ?_;refine aY (fun m S H'=>∃(i:Int) (x5:Value),0<=i/\i<=30/\m=(30-i).toNat/\S=[s.val,.pointer (some ⟨H.length,0,none⟩),.bool false,.slice (some ⟨j,0,some 7⟩) 30 30,.int .i64 i,x5]/\H1=H'/\¬ s ∈ szs.take i.toNat) 30 ?_ ?_
 ·exact⟨0,_,byO,byO,byO,rfl,rfl,by simp⟩
 rintro m S H2 ⟨i,x4,hi0,hi1,rfl,rfl,rfl,hno⟩;(try simp only[aD]);refine KY ?_ ?_<;>intro h
 ·have hi:i<30:=by simpa using h
  clear h;have hrow:=gW (i:=i.toNat) byO;have hlen:=fh;have hse:=CP (a:=bO i.toNat) (b:=s);have hgs:(bO i.toNat).cells=[.int .i64 (bO i.toNat).r,.int .i64 (bO i.toNat).c,.int .i64 (bO i.toNat).rr,.int .i64 (bO i.toNat).rc,.int .i64 (bO i.toNat).d,.int .i64 (bO i.toNat).k,.int .i64 (bO i.toNat).b]:=rfl;simp only[Sz.cells]at hse;clear hgs;have hmem:=ah (i:=i.toNat) byO;refine py ?_;refine KY ?_ ?_<;>intro h
  ·have he:bO i.toNat=s:=by rw[wi];simpa using h
   clear h;refine py ?_;refine Ho ?_;refine⟨hx1,?_⟩;rw[<-he];simp[hmem,aM]
  ·have he:¬ bO i.toNat=s:=by rw[wi];simpa using h
   clear h;refine py ?_;simp only[ak];refine⟨(30-(i+1)).toNat,byO,i+1,_,byO,byO,rfl,rfl,by trivial,?_⟩;rw[show(i+1).toNat=i.toNat+1 by omega,gJ byO];intro hm;rcases List.mem_append.1 hm with hm|hm
   ·exact hno hm
   ·simp at hm;exact he hm.symm
 ·obtain rfl:i=30:=by simp at h;omega
  clear h;refine py ?_;refine Ho ?_;refine⟨hx1,?_⟩;rw[List.take_of_length_le (by rw[gI];omega)]at hno;simp[hno,aM]
def jt(s:Sz)(l:List Int)(n:Int):Int:=if ¬ s ∈ szs then 14 else if (l.length:Int)≠n then 7 else if inF 256 l=true then 0 else 3
section
variable {lo:Nat}{H:Heap}{s:Sz}
theorem Aq{l:List Int}(hi:i<l.length)(h:inF 256 l=true):0<=l.getD i 0/\l.getD i 0<=255:=by
 have:=(iV (sz:=256)).1 h (l.getD i 0) (by rw[au₀,bc₀ hi];exact List.getElem_mem hi);omega
theorem yC{l:List Int}(hi:i<l.length)(hin:inF 256 (l.take i)=true)(h0:0<=l.getD i 0)(h1:l.getD i 0<=255):inF 256 (l.take (i+1))=true:=by
 have hs:=fC (p:=fun x=>!(decide (x<0) || decide ((256:Int)<=x))) hi;unfold inF at hin ⊢;rw[hs,hin];simp only[Bool.true_and,Bool.not_eq_true',Bool.or_eq_false_iff,ai₀];omega
namespace XYd
def xtr:=zzi @Int.cast_ofNat_Int (zzi @fv.eq_1 (zzi @fvf.eq_1 (zzi @ite_self.{1} (zzi @kf (zzi @ke (zzi @kc (zzi @cdC.eq_1 (zzi @arC.eq_1 @Sz.cells.eq_1))))))))
end XYd
open XYd
theorem NV{v:Value}{l:List Int}{n:Int}(hl:SlI H v l)(hll:l.length<=1000000000)(hlo:lo<=H.length):Ev cp lo 27 [v,s.val,.int .i64 n] H (fun r H'=>Ext H H'/\r=.int .i64 (jt s l n)):=by
 have hl0:=hl;obtain⟨ad,c,rfl⟩:=hl.len;refine stG rfl rfl ?_;unfold QB;simp only[kB,aD];refine aA ?_;generalize hG:H++_=G at *;obtain⟨g0,hxG⟩:=dk hG;clear hG;have hlG:=hxG.1;refine aT ?_;refine bS (P2 (Nat.le_refl _)) ?_;rintro r H1 ⟨j,hj,rfl,hg,hx1⟩;have g0:=hx1.get g0;have hx1:=hxG.trans hx1;refine bF ?_;refine eF (first:=#[]) (cap:=#[]) (args:=[.slice (some ⟨j,0,none⟩) 30 30,s.val]) (contains (s:=s) hg) ?_;rintro r H2 ⟨hx2,rfl⟩;have hx2:=hx1.trans hx2;clear hg hj hx1 g0;have hl2:=hx2.1;(try simp only[aD]);by_cases hs:s ∈ szs
 case neg=>
  have he:jt s l n=14:=if_pos hs;rw[he];refine aP ?_ ?_<;>intro h
  case refine_2=>exfalso;simp[hs]at h
  clear h;refine aA ?_;refine aK ?_;exact⟨hx2,rfl⟩
 have he:jt s l n=if (l.length:Int)≠n then 7 else if inF 256 l=true then 0 else 3:=if_neg (fun h=>h hs)
 rw[he];clear he;refine an ?_;(try simp only[aD]);by_cases hn:(l.length:Int)=n
 case neg=>
  rw[if_pos hn];refine aP ?_ ?_<;>intro h
  case refine_2=>exfalso;simp at h;exact hn h
  clear h;refine aA ?_;refine aK ?_;exact⟨hx2,rfl⟩
 rw[if_neg (fun h=>h hn)];subst hn;refine aP ?_ ?_<;>intro h
 ·simp at h
 clear h;refine aA ?_;refine aS (fun i S H'=>H2=H'/\inF 256 (l.take i)=true/\∃(z:Nat->Value),S=[z 0,z 1,z 2,z 3,z 4,z 5,z 6,z 7,z 8,.slice ad l.length c,.int .i64 (l.length:Nat),.int .i64 (i:Nat)]) l.length ?_ ?_ ?_ ?_
 ·exact⟨rfl,rfl,aH rfl⟩
 ·rintro i S H' hi ⟨rfl,-,z,rfl⟩
  exact⟨_,aN,by simp⟩
 ·rintro i S H' hi ⟨rfl,hin,z,rfl⟩
  obtain⟨b,o,sp,cap,xs,e,gx,hat,hxl⟩:=(hl0.mono hx2).els 0 byO;cases e;have hati:=hat i hi;have hok:=yC hi hin;clear hat;refine aA ?_;by_cases hb:0<=l.getD i 0/\l.getD i 0<=255
  ·replace hok:=hok hb.1 hb.2
   generalize l.getD i 0=y at *;refine aP ?_ ?_<;>intro h
   ·exfalso;simp at h;omega
   clear h;refine aA ?_;exact⟨by trivial,hok,aH ncM⟩
  ·have hno:¬ inF 256 l=true:=fun h=>hb (Aq hi h)
   rw[if_neg hno];clear hok hin hno;generalize l.getD i 0=y at *;refine aP ?_ ?_<;>intro h
   case refine_2=>exfalso;simp at h;omega
   clear h;refine aA ?_;refine aK ?_;exact⟨hx2,rfl⟩
 ·rintro S H' ⟨rfl,hin,z,rfl⟩
  rw[List.take_of_length_le (Nat.le_refl _)]at hin;rw[if_pos hin];refine aA ?_;refine aK ?_;exact⟨hx2,rfl⟩
theorem NN{v:Value}{l:List Int}(hl:SlI H v l)(hll:l.length<=1000000000):Ev cp lo 32 [v] H (fun r H'=>H=H'/\r=.bool (inF 256 l)):=by
 have hl0:=hl;obtain⟨ad,c,rfl⟩:=hl.len;refine stG rfl rfl ?_;unfold QG;simp only[kB,aD];refine aA ?_;refine aS (fun i S H'=>H=H'/\inF 256 (l.take i)=true/\∃(z:Nat->Value),S=[.slice ad l.length c,z 1,.int .i64 (i:Nat)]) l.length ?_ ?_ ?_ ?_
 ·exact⟨rfl,rfl,aH rfl⟩
 ·rintro i S H' hi ⟨rfl,-,z,rfl⟩
  exact⟨_,aN,by simp⟩
 ·rintro i S H' hi ⟨rfl,hin,z,rfl⟩
  obtain⟨b,o,sp,cap,xs,e,gx,hat,hxl⟩:=hl0.els 0 byO;cases e;have hati:=hat i hi;have hok:=yC hi hin;clear hat;(try simp only[aD]);by_cases hb:0<=l.getD i 0/\l.getD i 0<=255
  ·replace hok:=hok hb.1 hb.2
   generalize l.getD i 0=y at *;refine aP ?_ ?_<;>intro h
   ·exfalso;simp at h;omega
   clear h;refine aA ?_;exact⟨by trivial,hok,aH ncM⟩
  ·have hno:inF 256 l=false:=by
    rw[Bool.eq_false_iff];exact fun h=>hb (Aq hi h)
   rw[hno];clear hok hin hno;generalize l.getD i 0=y at *;refine aP ?_ ?_<;>intro h
   case refine_2=>exfalso;simp at h;omega
   clear h;refine aA ?_;refine aK ?_;exact⟨rfl,rfl⟩
 ·rintro S H' ⟨rfl,hin,z,rfl⟩
  rw[List.take_of_length_le (Nat.le_refl _)]at hin;rw[hin];refine aA ?_;refine aK ?_;exact⟨rfl,rfl⟩
theorem ID(hlo:lo<=H.length):Ev cp lo 56 [.int .i64 8,.int .i64 301] H (fun r H'=>Ext H H'/\r=.tuple #[fv 2 256 301,.int .i64 0]):=by
 have hsh:IntKind.i64.wrap (1*2^(min (8:Int).toNat IntKind.i64.bits))=256:=by decide
 refine stG rfl rfl ?_;unfold QW;simp only[kB,aD];refine aA ?_;refine an ?_;refine aA ?_;generalize hG:H++_=G at *;obtain⟨g0,hxG⟩:=dk hG;have g1:Heap.get G (H.length+1)=some [Value.int .i64 2,Value.int .i64 256,Value.int .i64 301]:=by rw[<-hG,bC];rfl
 clear hG;refine aT ?_;refine aC (valid (ch:=2) (sz:=256) (po:=301) (by decide)) ?_;rintro r H1 ⟨hx1,t,rfl,ht⟩;have htt:t=true:=ht.2 ⟨_,AP⟩;subst htt;clear ht;have g0:=(hx1).get g0;have g1:=(hx1).get g1;have hx1:=hxG.trans hx1;have hl1:=Heap.get_lt g1;(try simp only[aD]);refine an ?_;refine aA ?_;refine aK ?_;exact⟨hx1.set byO,rfl⟩
end
open XYd
section
variable {lo:Nat}{H:Heap}
theorem RC(hi:i<30)(hlo:lo<=H.length):Ev cp lo 28 [(dz i).sz.val] H (fun r H'=>Ext H H'/\r=.tuple #[cdV (fB 301) (dz i).ck 1,.int .i64 0]):=by
 have hz:=uA hi;generalize dz i=z at *;obtain⟨n1,n2,dn,d2,c2,-,k1,k2,al⟩:=hz;have hok:ng 2 256 301 (z.ck:Nat) 1:=⟨⟨_,AP⟩,byO,byO,byO,byO⟩;have hdiv:(z.c:Int).tdiv (z.n:Int)=(z.ck:Nat):=(Int.ofNat_tdiv z.c z.n).symm;unfold Dz.sz Sz.val;refine stG rfl rfl ?_;unfold QC;simp only[kB,aD];refine aA ?_;generalize hG:H++_=G at *;obtain⟨g0,hxG⟩:=dk hG;have g1:Heap.get G (H.length+1)=some (List.replicate 5 (Value.int .i64 0)):=by rw[<-hG,bC];rfl
 clear hG;have hlG:=Heap.get_lt g1;refine aT ?_;refine aC (ID byO) ?_;rintro r H1 ⟨hx1,rfl⟩;have g0:=(hx1).get g0;have g1:=(hx1).get g1;have hx1:=hxG.trans hx1;have hl1:=Heap.get_lt g1;unfold fv;refine aA ?_;generalize hG:H1++_=G1 at *;obtain⟨g2,hxG1⟩:=dk hG;clear hG;have g0:=(hxG1).get g0;have g1:=(hxG1).get g1;have hx2:=hx1.trans hxG1;have hl2:=hx2.1;refine an ?_;refine bF ?_;refine eF (first:=#[]) (cap:=#[]) (args:=[fv 2 256 301,.int .i64 (z.ck:Nat),.int .i64 1]) (Ui (ch:=2) (sz:=256) (po:=301) (r:=(z.ck:Nat)) (b:=1) byO byO) ?_;rintro r H3 ⟨hx3,-,-,hv⟩;rw[hv hok];clear hv;have g0:=(hx3).get g0;have g1:=(hx3).get g1;have hx3:=hx2.trans hx3;have hl3:=Heap.get_lt g1;unfold cdI;refine aA ?_;refine aK ?_;exact⟨hx3.set byO,rfl⟩
theorem uw{l:List Int}{n x k:Nat}(hx:x<n)(hk:k<cnt l.length n x):(fO l 0 n x).take (k+1)=(fO l 0 n x).take k++[l.getD (x+k*n) 0]:=by
 rw[List.take_add_one];congr 1;unfold fO;rw[az₀,List.getElem?_range hk];rfl
end
end Go.Proofs.YtmnlgdpdgjbfgaaGreat
namespace Go.Proofs.YtmnlgdpdgjbfgaaGreat
open Go.Abs Go.RS
variable{v:Value}{n:Nat}
section
variable {lo:Nat}{H:Heap}
theorem step_eq(x k n:Nat):((x+k*n:Nat):Int)+(n:Nat)=((x+(k+1)*n:Nat):Int):=by
 have:=Nat.succ_mul k n;rw[show(k+1)*n=k*n+n from this];omega
theorem BE{N n x:Nat}(hx:x<n):cnt N n x<=N:=by
 apply Nat.le_of_not_lt;intro h;rw[fT hx]at h;have:=Nat.le_mul_of_pos_right N (show 0<n by omega);omega
namespace XYe
def xtr:=zzi @Int.cast_ofNat_Int @ite_self.{1}
end XYe
open XYe
theorem NK{l:List Int}{n x:Nat}(hl:SlI H v l)(hll:l.length<=1000000000)(hx:x<n)(hn:n<=1000)(hlo:lo<=H.length):Ev cp lo 30 [v,.int .i64 (n:Nat),.int .i64 (x:Nat)] H (fun r H'=>Ext H H'/\SlI H' r (fO l 0 n x)):=by
 have hl0:=hl;obtain⟨ad,c,rfl⟩:=hl.len;refine stG rfl rfl ?_;unfold QE;simp only[kB,aD];refine aA ?_;have e0:((x:Nat):Int)=((x+0*n:Nat):Int):=by simp
 refine aS (fun k S H'=>Ext H H'/\∃(vo:Value) (bo:Nat),Own H.length 1 H' vo bo (aW ((fO l 0 n x).take k))/\∃(z:Nat->Value),S=[.slice ad l.length c,.int .i64 (n:Nat),z 2,z 3,vo,.int .i64 (x+k*n:Nat),z 6,z 7,z 8]) (cnt l.length n x) ?_ ?_ ?_ ?_
 ·exact⟨Ext.refl _,_,_,Own.nil (Nat.le_refl _),aH (by simp only[Nat.zero_mul,Nat.add_zero];rfl)⟩
 ·rintro k S H' hk ⟨hx1,vo,bo,-,z,rfl⟩
  exact⟨_,aN,by rw[fT hx];simp only[af₀];omega⟩
 ·rintro k S H2 hk ⟨hx2,vo,bo,oo,z,rfl⟩
  have hl2:=hx2.1;have hkl:=(fT hx).1 hk;have hcl:((fO l 0 n x).take k).length<=1000000000:=by
   rw[List.length_take,jN];have:=BE (N:=l.length) hx;omega
  have hsn:=uw (l:=l) hx hk;have hse:=step_eq x k n;obtain⟨xb,xo,xsp,xc,xs,e1,g1,f1,_⟩:=(hl0.mono hx2).els 0 byO;cases e1;have k1:=f1 _ hkl;have hxg:=Heap.get_lt g1;clear f1 e0;rw[hsn];clear hsn;generalize (fO l 0 n x).take k=acc at *;generalize x+k*n=p at *;generalize x+(k+1)*n=p' at *;generalize l.getD p 0=y at *;replace hse:False\/_:=.inr hse;refine aA ?_;refine aT ?_;refine di (b:=bo) (cells:=aW acc) (c:=aW [y]) ((oo.mono (Ext.app _ _)).lower byO) (by simp;omega) byO byO (by rw[eE];omega) aF (by simp) rfl rfl ?_;rw[<-jE];intro vo' H3 oo' hk3 hl3;have hx3:=hk3.ext (hx2.trans (Ext.app H2 _)) oo.1;refine aA ?_;exact⟨hx3,vo',_,⟨by simp;omega,oo'.2⟩,aH (by rw[hse.resolve_left id];rfl)⟩
 ·rintro S H2 ⟨hx2,vo,bo,oo,z,rfl⟩
  rw[List.take_of_length_le (by rw[jN];exact Nat.le_refl _)]at oo;refine aA ?_;refine aK ?_;exact⟨hx2,Sl.ofOwn oo⟩
theorem NL{l:List Int}{n x:Nat}(hl:SlI H v l)(hll:l.length<=1000000000)(hx:x<n)(hn:n<=1000)(hlo:lo<=H.length):Ev cp lo 35 [v,.int .i64 (x:Nat),.int .i64 (n:Nat)] H (fun r H'=>Ext H H'/\SlI H' r (fO l 0 n x)):=by
 have hl0:=hl;obtain⟨ad,c,rfl⟩:=hl.len;refine stG rfl rfl ?_;unfold QJ;simp only[kB,aD];refine aA ?_;have e0:((x:Nat):Int)=((x+0*n:Nat):Int):=by simp
 refine aS (fun k S H'=>Ext H H'/\∃(vo:Value) (bo:Nat),Own H.length 1 H' vo bo (aW ((fO l 0 n x).take k))/\∃(z:Nat->Value),S=[.slice ad l.length c,z 1,.int .i64 (n:Nat),z 3,vo,.int .i64 (x+k*n:Nat),z 6,z 7,z 8]) (cnt l.length n x) ?_ ?_ ?_ ?_
 ·exact⟨Ext.refl _,_,_,Own.nil (Nat.le_refl _),aH (by simp only[Nat.zero_mul,Nat.add_zero];rfl)⟩
 ·rintro k S H' hk ⟨hx1,vo,bo,-,z,rfl⟩
  exact⟨_,aN,by rw[fT hx];simp only[af₀];omega⟩
 ·rintro k S H2 hk ⟨hx2,vo,bo,oo,z,rfl⟩
  have hl2:=hx2.1;have hkl:=(fT hx).1 hk;have hcl:((fO l 0 n x).take k).length<=1000000000:=by
   rw[List.length_take,jN];have:=BE (N:=l.length) hx;omega
  have hsn:=uw (l:=l) hx hk;have hse:=step_eq x k n;obtain⟨xb,xo,xsp,xc,xs,e1,g1,f1,_⟩:=(hl0.mono hx2).els 0 byO;cases e1;have k1:=f1 _ hkl;have hxg:=Heap.get_lt g1;clear f1 e0;rw[hsn];clear hsn;generalize (fO l 0 n x).take k=acc at *;generalize x+k*n=p at *;generalize x+(k+1)*n=p' at *;generalize l.getD p 0=y at *;replace hse:False\/_:=.inr hse;refine aA ?_;refine aT ?_;refine di (b:=bo) (cells:=aW acc) (c:=aW [y]) ((oo.mono (Ext.app _ _)).lower byO) (by simp;omega) byO byO (by rw[eE];omega) aF (by simp) rfl rfl ?_;rw[<-jE];intro vo' H3 oo' hk3 hl3;have hx3:=hk3.ext (hx2.trans (Ext.app H2 _)) oo.1;refine aA ?_;exact⟨hx3,vo',_,⟨by simp;omega,oo'.2⟩,aH (by rw[hse.resolve_left id];rfl)⟩
 ·rintro S H2 ⟨hx2,vo,bo,oo,z,rfl⟩
  rw[List.take_of_length_le (by rw[jN];exact Nat.le_refl _)]at oo;refine aA ?_;refine aK ?_;exact⟨hx2,Sl.ofOwn oo⟩
end
open Go.Abs Go.RS
theorem ug{n k:Nat}{F G:Nat->Int}(hk:k<n)(h:∀i,i<n->i≠k->G i=F i):((List.range n).map F).set k (G k)=(List.range n).map G:=by
 refine List.ext_getElem (by simp) fun i h1 h2=>?_;rw[List.getElem_set];simp only[List.getElem_map,List.getElem_range];split
 ·rename_i e;rw[e]
 ·rename_i e
  rw[h i (by simpa using h2) (fun e2=>e e2.symm)]
def mix(n:Nat)(V:Nat->Int)(T x i:Nat):List Int:=(List.range T).map fun j=>if j%n<x\/(j%n=x/\j/n<i) then V j else 0
theorem JV(n:Nat)(V:Nat->Int)(T x i:Nat):(mix n V T x i).length=T:=by simp[mix]
theorem Rc(n:Nat)(V:Nat->Int)(T:Nat):mix n V T 0 0=List.replicate T 0:=by
 unfold mix;rw[List.map_congr_left (g:=fun _=>(0:Int)) (fun j _=>if_neg (fun h=>h.elim (fun h=>absurd h (Nat.not_lt_zero _)) fun h=>absurd h.2 (Nat.not_lt_zero _))),List.map_const',List.length_range]
theorem JW{V:Nat->Int}{T x i:Nat}(hx:x<n)(h:x+i*n<T):(mix n V T x i).set (x+i*n) (V (x+i*n))=mix n V T x (i+1):=by
 have hb:=BZ (n:=n) (W:=fun _=>[]) (k:=i) hx;have:=ug (F:=fun j=>if j%n<x\/(j%n=x/\j/n<i) then V j else 0) (G:=fun j=>if j%n<x\/(j%n=x/\j/n<i+1) then V j else 0) h (fun j _ hj=>by
  by_cases h1:j%n<x\/(j%n=x/\j/n<i)
  ·rw[if_pos h1,if_pos byO]
  ·rw[if_neg h1,if_neg]
   rintro(h2|⟨h2,h3⟩)
   ·exact h1 (.inl h2)
   ·by_cases h4:j/n=i
    ·apply hj
     have:=Nat.div_add_mod j n;rw[h2,h4,bb₀]at this;omega
    ·exact h1 (.inr ⟨h2,byO⟩))
 rw[hb.1,hb.2,if_pos (.inr ⟨rfl,byO⟩)]at this;exact this
theorem GD{V:Nat->Int}{T x i:Nat}(hx:x<n)(hi:i=cnt T n x):mix n V T x i=mix n V T (x+1) 0:=by
 unfold mix;refine List.map_congr_left fun j hj=>?_;have hj:=List.mem_range.1 hj;have h1:=rQ (N:=T) (n:=n) byO hj;by_cases h:j%n<x\/(j%n=x/\j/n<i)
 ·rw[if_pos h,if_pos byO]
 ·rw[if_neg h,if_neg]
  rintro(h2|h2)
  ·by_cases h3:j%n=x
   ·rw[h3]at h1;exact h (.inr ⟨h3,byO⟩)
   ·exact h (.inl byO)
  ·exact absurd h2.2 (Nat.not_lt_zero _)
theorem JU{V:Nat->Int}{T:Nat}(hn:0<n):mix n V T n 0=(List.range T).map V:=by
 unfold mix;exact List.map_congr_left fun j _=>if_pos (.inl (Nat.mod_lt j hn))
theorem BD{z:Dz}(hz:z.Ok){x:Nat}(hx:x<z.n):cnt (z.d+z.c) z.n x=cnt z.d z.n x+z.ck/\0<cnt z.d z.n x/\cnt z.d z.n x+z.ck<=250:=by
 have h1:cnt (z.d+z.c) z.n x=cnt z.d z.n x+z.ck:=by
  have:=IL (N:=z.d) (n:=z.n) (k:=z.ck) hx;rw[<-hz.cn]at this;exact this
 refine⟨h1,(fT hx).2 (by have:=hz.dn;omega),?_⟩;rw[<-h1];apply Nat.le_of_not_lt;intro h;rw[fT hx]at h;have:=hz.all;omega
def zJ(s:Sz)(l:List Int)(N:Nat)(H:Heap)(r:Value):Prop:=
 (jt s l s.d≠0->r=.tuple #[.slice none 0 0,.int .i64 (jt s l s.d)]) /\
 (∀i,i<30->s=(dz i).sz->∀e:List (El F1),l=en e->e.length=(dz i).d->∃b,N<=b/\r=.tuple #[.slice (some ⟨b,0,none⟩) ((dz i).d+(dz i).c) ((dz i).d+(dz i).c),.int .i64 0]/\H.get b=some (aW (ilv (dz i).n ((dz i).W e) ((dz i).d+(dz i).c)))/\∀x,x<(dz i).n->IsEnc g1 (dz i).ck 1 (fO e 0 (dz i).n x) ((dz i).W e x))
theorem N3{s:Sz}{l:List Int}{n:Int}(h:jt s l n=0):s ∈ szs/\(l.length:Int)=n/\inF 256 l=true:=by
 unfold jt at h;split at h
 ·simp at h
 ·rename_i h1
  split at h
  ·simp at h
  ·rename_i h2
   split at h
   ·rename_i h3
    exact⟨Decidable.not_not.1 h1,Decidable.not_not.1 h2,h3⟩
   ·simp at h
theorem vQ{s:Sz}{l:List Int}{n:Int}(h1:s ∈ szs)(h2:(l.length:Int)=n)(h3:inF 256 l=true):jt s l n=0:=by
 unfold jt;rw[if_neg (fun h=>h h1),if_neg (fun h=>h h2),if_pos h3]
theorem CQ{i j:Nat}(hi:i<30)(hj:j<30)(h:(dz i).sz=(dz j).sz):dz i=dz j:=by
 have:∀i,i<30->∀j,j<30->(dz i).sz=(dz j).sz->i=j:=by decide +kernel
 rw[this i hi j hj h]
section
variable {lo:Nat}{H:Heap}{s:Sz}
namespace XYf
def xtr:=zzi @Int.cast_ofNat_Int (zzi @ite_self.{1} @Sz.cells.eq_1)
end XYf
open XYf
set_option maxHeartbeats 1000000 in
theorem Sd{l:List Int}(hl:SlI H v l)(hll:l.length<=1000000000)(hlo:lo<=H.length):Ev cp lo 13 [v,s.val] H (fun r H'=>Ext H H'/\zJ s l H.length H' r):=by
 have hl0:=hl;obtain⟨ad,c,rfl⟩:=hl.len;refine stG rfl rfl ?_;unfold Pv;simp only[kB,aD];refine aA ?_;generalize hG:H++_=G at *;obtain⟨g0,hxG⟩:=dk hG;clear hG;have hlG:=hxG.1;refine aT ?_;refine aC (NV (s:=s) (n:=s.d) (hl.mono hxG) hll byO) ?_;rintro r H1 ⟨hx1,rfl⟩;have g0:=hx1.get g0;have hx1:=hxG.trans hx1;have hl1:=hx1.1;refine aA ?_;by_cases he:jt s l s.d=0
 case neg=>
  have hg:zJ s l H.length H1 (.tuple #[.slice none 0 0,.int .i64 (jt s l s.d)]):=by
   refine⟨fun _=>rfl,fun i hi hs e hle hlen=>absurd (vQ (mZ.2 ⟨i,hi,hs⟩) ?_ ?_) he⟩
   ·rw[hle,dX,hlen,hs];rfl
   ·rw[hle];exact gj (f:=F1) e
  generalize jt s l s.d=ee at *;refine aP ?_ ?_<;>intro h
  case refine_2=>exfalso;simp at h;exact he h
  clear h;refine aA ?_;refine aK ?_;exact⟨hx1,hg⟩
 obtain⟨hs,hln,hin⟩:=N3 he;obtain⟨i0,hi0,hs0⟩:=mZ.1 hs;obtain⟨e,hle⟩:=MJ (f:=F1) hin;replace hle:l=en e:=hle;rw[he];subst hs0;have hg:∀{H':Heap} {b:Nat},H.length<=b->Heap.get H' b=some (aW (ilv (dz i0).n ((dz i0).W e) ((dz i0).d+(dz i0).c)))->(∀x,x<(dz i0).n->IsEnc g1 (dz i0).ck 1 (fO e 0 (dz i0).n x) ((dz i0).W e x))->zJ (dz i0).sz l H.length H' (.tuple #[.slice (some ⟨b,0,none⟩) ((dz i0).d+(dz i0).c) ((dz i0).d+(dz i0).c),.int .i64 0]):=by
  intro H' b hb hh hw;refine⟨fun h=>absurd he h,fun i hi hs e2 hle2 hlen2=>?_⟩;have h3:=CQ hi0 hi hs;have h4:e=e2:=List.map_inj_right (f:=fun x:El F1=>((x.val:Nat):Int)) (fun x y h=>El.ext byO) |>.1 (show en e=en e2 by rw[<-hle,<-hle2]);subst h4;rw[<-h3];exact⟨b,hb,rfl,hh,hw⟩
 have hcode:=fun {H:Heap} {lo:Nat} (h:lo<=H.length)=>RC (H:=H) hi0 h;have hz:=uA hi0;clear he hs hin;generalize dz i0=zz at *;have hel:e.length=zz.d:=by
  have h1:l.length=e.length:=by rw[hle];exact dX e
  have h2:(l.length:Int)=(zz.d:Int):=hln;omega
 have hlz:l.length=zz.d:=by rw[<-hel,hle];exact dX e
 clear hln;replace hle:False\/_:=.inr hle;replace hlz:l.length<=zz.d/\zz.d<=l.length:=byO;replace hel:False\/_:=.inr hel;have n1:=hz.n1;have n2:=hz.n2;have dn:=hz.dn;have d2:=hz.d2;have c2:=hz.c2;have k1:=hz.k1;have k2:=hz.k2;unfold Dz.sz Sz.val at *;simp only[Sz.cells]at *;refine an ?_;refine bF ?_;refine aC (hcode byO) ?_;rintro r H2 ⟨hx2,rfl⟩;have g0:=hx2.get g0;have hq2:=Heap.get_lt g0;have hx2:=hx1.trans hx2;have hl2:=hx2.1;clear hcode;unfold cdV;refine aA ?_;generalize hG:H2++_=G1 at *;obtain⟨gc,hxG1⟩:=dk hG;clear hG;have g0:=hxG1.get g0;have hxc:=hx2.trans hxG1;have hlc:=hxc.1;have hlt0:=Heap.get_lt gc;refine an ?_;(try simp only[aD]);obtain⟨T,hT1,hT2⟩:∃T:Nat,T<=zz.d+zz.c/\zz.d+zz.c<=T:=⟨_,Nat.le_refl _,Nat.le_refl _⟩;have hTT:zz.d+zz.c=T:=byO;rw[hTT]at hg;have hTi:(zz.d:Int)+(zz.c:Int)=((T:Nat):Int):=byO;have hca:∀x,x<zz.n->(cnt T zz.n x<=cnt zz.d zz.n x+zz.ck/\cnt zz.d zz.n x+zz.ck<=cnt T zz.n x)/\0<cnt zz.d zz.n x/\cnt zz.d zz.n x+zz.ck<=250:=fun x hx=>by
  have:=BD hz hx;rw[hTT]at this;omega
 clear hTT hz;refine aA ?_;clear hTi;generalize hG:G1++_=G2 at *;obtain⟨gt,hxG2⟩:=dk hG;clear hG;generalize hV:(fun j=>(((co (zz.W e (j%zz.n)) (j/zz.n)).val:Nat):Int))=V at *;have gt:Heap.get G2 G1.length=some (aW (mix zz.n V T 0 0)):=by
  rw[gt,Rc]
 have g0:=hxG2.get g0;have gc:=hxG2.get gc;have hxd:=hxc.trans hxG2;have hltt:=Heap.get_lt gt;refine aS (fun x S H'=>Keep G1.length G2 H'/\Heap.get H' G1.length=some (aW (mix zz.n V T x 0))/\(∀y,y<x->IsEnc g1 zz.ck 1 (fO e 0 zz.n y) (zz.W e y))/\∃(z:Nat->Value),S=[.slice ad l.length c,z 1,.pointer (some ⟨H.length,0,none⟩),z 3,z 4,z 5,.pointer (some ⟨H2.length,0,none⟩),z 7,.slice (some ⟨G1.length,0,none⟩) T T,z 9,z 10,z 11,z 12,z 13,z 14,z 15,z 16,z 17,z 18,.int .i64 (zz.n:Nat),.int .i64 (x:Nat),z 21,z 22,z 23,z 24,z 25,z 26]) zz.n ?_ ?_ ?_ ?_
 ·exact⟨lT (Ext.refl _),gt,byO,aH rfl⟩
 ·rintro x S H' hx ⟨-,-,-,z,rfl⟩
  exact⟨_,aN,by simp⟩
 ·clear gt
  rintro x S H3 hx ⟨q1,gt,hw,z,rfl⟩;obtain⟨ca,cb,cc⟩:=hca x hx;have g0:=q1.get g0 byO;have gc:=q1.get gc byO;have hx3:=q1.ext hxd byO;have hl3:=hx3.1;have hsl:=hl0.mono hx3;have hq3:=q1.len;refine aA ?_;refine aT ?_;refine bS (NK (n:=zz.n) (x:=x) hsl hll hx byO (Nat.le_refl _)) ?_;rintro r H4 ⟨hx4,hr⟩;rw[hle.resolve_left id,yw]at hr;have hr:SlE H4 r (fO e 0 zz.n x):=CJ hr;have hsd:(fO e 0 zz.n x).length=cnt zz.d zz.n x:=by rw[jN,hel.resolve_left id]
  have gt:=hx4.get gt;have g0:=hx4.get g0;have gc:=hx4.get gc;have hq4:=hx4.1;refine bF ?_;refine eF (first:=#[]) (cap:=#[]) (args:=[cdV (fB 301) zz.ck 1,r]) (FB (f:=F1) (g:=g1) (d:=fO e 0 zz.n x) byO F4 (BA byO byO) hr byO) ?_;rintro r2 H5 ⟨hx5,⟨-,-,vw,w,rfl,hvw,hnew,hie⟩|⟨hno,-⟩⟩
  case inr=>exact absurd ⟨byO,by show _<256;omega⟩ hno
  obtain rfl:w=zz.W e x:=BN (BA byO byO) hie;have hwl:=hie.len;rw[hsd]at hwl;have hwc:(zz.W e x).length=cnt T zz.n x:=byO;have gt:=hx5.get gt;have g0:=hx5.get g0;have gc:=hx5.get gc;have hq5:=hx5.1;have hvw0:=hvw;obtain⟨aw,cw,ew⟩:=hvw.len;rw[hwc]at ew;clear hwc;subst ew;replace hwl:cnt T zz.n x<=(zz.W e x).length/\(zz.W e x).length<=cnt T zz.n x:=byO;have hb5:=Heap.get_lt gt;clear hr;refine aA ?_;refine an ?_;refine aA ?_;refine aS (fun i S H'=>Keep G1.length H5 H'/\Heap.get H' G1.length=some (aW (mix zz.n V T x i))/\∃(z:Nat->Value),S=[.slice ad l.length c,z 1,.pointer (some ⟨H.length,0,none⟩),z 3,z 4,z 5,.pointer (some ⟨H2.length,0,none⟩),z 7,.slice (some ⟨G1.length,0,none⟩) T T,.int .i64 (x:Nat),z 10,z 11,z 12,z 13,z 14,z 15,z 16,z 17,z 18,.int .i64 (zz.n:Nat),.int .i64 (x:Nat),z 21,z 22,z 23,.slice aw (cnt T zz.n x) cw,.int .i64 (cnt T zz.n x:Nat),.int .i64 (i:Nat)]) (cnt T zz.n x) ?_ ?_ ?_ ?_
  ·exact⟨lT (Ext.refl _),gt,aH rfl⟩
  ·rintro i S H' hi ⟨-,-,z,rfl⟩
   exact⟨_,aN,by simp⟩
  ·clear gt
   rintro i S H6 hi ⟨q6,gt,z,rfl⟩;have g0:=q6.get g0 byO;have hp:=(fT hx).1 hi;have hms:=JW (V:=V) hx hp;have hVp:V (x+i*zz.n)=((((zz.W e x).getD i 0).val:Nat):Int):=by
    rw[<-hV];have:=BZ (n:=zz.n) (W:=fun _=>[]) (k:=i) hx;simp only[this.1,this.2];rfl
   obtain⟨bw,ow,spw,cw2,xw,e6,gx,hat,hxl⟩:=gV (KN hvw0 hnew q6 byO) byO;rw[show(zz.W e x).length=cnt T zz.n x by omega]at e6;cases e6;have hati:=hat i byO;have hml:=JV zz.n V T x i;have hl6:=Heap.get_lt gt;rw[hVp]at hms;have hco:co (zz.W e x) i=(zz.W e x).getD i 0:=rfl;rw[hco]at hati;clear hat hVp hco;replace hp:((x:Nat):Int)+(i:Int)*(zz.n:Int)=((x+i*zz.n:Nat):Int)/\x+i*zz.n<T:=⟨by rw[ap₀,Int.natCast_mul],hp⟩;obtain⟨hp1,hp2⟩:=hp;generalize x+i*zz.n=p at *;generalize ((((zz.W e x).getD i 0).val:Nat):Int)=y at *;generalize mix zz.n V T x i=M at *;generalize mix zz.n V T x (i+1)=M' at *;refine aA ?_;refine⟨uS q6 _,?_,aH ncM⟩;rw[aG byO]
  ·rintro S H6 ⟨q6,gt,z,rfl⟩
   rw[GD hx rfl]at gt;have q7:=kg q1 (kg (lT (hx4.trans hx5)) q6);refine aA ?_;refine⟨q7,gt,fun y hy=>?_,aH ncM⟩;by_cases e2:y=x
   ·rw[e2];exact hie
   ·exact hw y byO
 ·clear gt
  rintro S H3 ⟨q1,gt,hw,z,rfl⟩;rw[JU byO,<-hV]at gt;refine aA ?_;refine aK ?_;exact⟨q1.ext hxd byO,hg byO gt hw⟩
end
end Go.Proofs.YtmnlgdpdgjbfgaaGreat
