/- Lemmas. -/
import Derived.Test.YtmnlgdpdgjbfgaaGreatW19
import Derived.Test.YtmnlgdpdgjbfgaaGreatW20
import Derived.Test.YtmnlgdpdgjbfgaaGreatW21
import Derived.Test.YtmnlgdpdgjbfgaaGreatW36
set_option linter.all false
namespace Go.Proofs.YtmnlgdpdgjbfgaaGreat
open Go.Abs Go.RS
variable{H:Heap}{lo:Nat}{n:Nat}{i:Nat}
def szT:List (List Nat):=[[10,10,8,8,3,5,1],[12,12,10,10,5,7,1],[14,14,12,12,8,10,1],[16,16,14,14,12,12,1],[18,18,16,16,18,14,1],[20,20,18,18,22,18,1],[22,22,20,20,30,20,1],[24,24,22,22,36,24,1],[26,26,24,24,44,28,1],[32,32,14,14,62,36,1],[36,36,16,16,86,42,1],[40,40,18,18,114,48,1],[44,44,20,20,144,56,1],[48,48,22,22,174,68,1],[52,52,24,24,204,84,2],[64,64,14,14,280,112,2],[72,72,16,16,368,144,4],[80,80,18,18,456,192,4],[88,88,20,20,576,224,4],[96,96,22,22,696,272,4],[104,104,24,24,816,336,6],[120,120,18,18,1050,408,6],[132,132,20,20,1304,496,8],[144,144,22,22,1558,620,10],[8,18,6,16,5,7,1],[8,32,6,14,10,11,1],[12,26,10,24,16,14,1],[12,36,10,16,22,18,1],[16,36,14,16,32,24,1],[16,48,14,22,49,28,1]]
structure Dz where
 a:Nat
 b:Nat
 ra:Nat
 rb:Nat
 d:Nat
 c:Nat
 n:Nat
def Rp(r:List Nat):Dz:=⟨r.getD 0 0,r.getD 1 0,r.getD 2 0,r.getD 3 0,r.getD 4 0,r.getD 5 0,r.getD 6 0⟩
def dz(i:Nat):Dz:=Rp (szT.getD i [])
def Dz.ck(z:Dz):Nat:=z.c/z.n
def Dz.cells(z:Dz):List Int:=[(z.a:Int),(z.b:Int),(z.ra:Int),(z.rb:Int),(z.d:Int),(z.c:Int),(z.n:Int)]
structure Dz.Ok (z:Dz):Prop where
 n1:1<=z.n
 n2:z.n<=10
 dn:z.n<=z.d
 d2:z.d<=1558
 c2:z.c<=620
 cn:z.c=z.n*z.ck
 k1:1<=z.ck
 k2:z.ck<=68
 all:z.d+z.c<=250*z.n
theorem tj(hi:i<30):(dz i).Ok:=by
 have h:∀i,i<30->(1<=(dz i).n/\(dz i).n<=10/\(dz i).n<=(dz i).d/\(dz i).d<=1558/\(dz i).c<=620/\(dz i).c=(dz i).n*(dz i).ck/\1<=(dz i).ck/\(dz i).ck<=68/\(dz i).d+(dz i).c<=250*(dz i).n):=by decide +kernel
 obtain⟨a,b,c,d,e,f,g,h,i⟩:=h i hi;exact⟨a,b,c,d,e,f,g,h,i⟩
def cnt(N n x:Nat):Nat:=(N+n-1-x)/n
theorem eP{N n x k:Nat}(hx:x<n):k<cnt N n x↔x+k*n<N:=by
 unfold cnt;rw[Nat.lt_iff_add_one_le,Nat.le_div_iff_mul_le byO,Nat.add_mul,Nat.one_mul];omega
theorem Hp{N n x k:Nat}(hx:x<n):cnt (N+n*k) n x=cnt N n x+k:=by
 unfold cnt;rw[show N+n*k+n-1-x=N+n-1-x+n*k by omega,Nat.add_mul_div_left _ _ byO]
theorem wy{N n x:Nat}(hx:x<n):cnt (N+1) n x=if N%n=x then cnt N n x+1 else cnt N n x:=by
 have h:∀k,k<cnt (N+1) n x↔k<(if N%n=x then cnt N n x+1 else cnt N n x):=by
  intro k;rw[eP hx];by_cases e:N%n=x
  ·have hd:=Nat.div_add_mod N n
   have h1:cnt N n x=N/n:=by
    apply Nat.le_antisymm
    ·apply Nat.le_of_not_lt;intro h
     rw[eP hx,bb₀]at h;omega
    ·apply Nat.le_of_not_lt;intro h
     obtain⟨m,hm⟩:∃m,N/n=m+1:=⟨N/n-1,byO⟩;have:¬ m<cnt N n x:=byO;rw[eP hx,bb₀]at this;rw[hm,Nat.mul_add]at hd;omega
   rw[if_pos e,h1,Nat.lt_succ_iff];constructor
   ·intro h
    apply Nat.le_of_not_lt;intro hc;have hc:N/n+1<=k:=byO;have:=Nat.mul_le_mul_left n hc;rw[Nat.mul_add,bb₀ n k]at this;omega
   ·intro h
    have h:k<=N/n:=byO;have:=Nat.mul_le_mul_left n h;rw[bb₀ n k]at this;omega
  ·rw[if_neg e,eP hx]
   constructor
   ·intro h
    apply Nat.lt_of_le_of_ne byO;rintro rfl;apply e;rw[Nat.add_mul_mod_self_right,Nat.mod_eq_of_lt hx]
   ·omega
 apply Nat.le_antisymm
 ·apply Nat.le_of_not_lt;intro hc
  have:=(h _).1 hc;omega
 ·apply Nat.le_of_not_lt;intro hc
  have:=(h _).2 hc;omega
theorem ED{N n:Nat}(hn:0<n):cnt N n (N%n)=N/n:=by
 have hx:=Nat.mod_lt N hn;have h:=Nat.div_add_mod N n;apply Nat.le_antisymm
 ·apply Nat.le_of_not_lt;intro hc
  rw[eP hx,bb₀]at hc;omega
 ·apply Nat.le_of_not_lt;intro hc
  obtain⟨m,hm⟩:∃m,N/n=m+1:=⟨N/n-1,byO⟩;have:¬ m<cnt N n (N%n):=byO;rw[eP hx,bb₀]at this;rw[hm,Nat.mul_add]at h;omega
theorem kE{N n j:Nat}(hn:0<n)(hj:j<N):j/n<cnt N n (j%n):=by
 rw[eP (Nat.mod_lt j hn),bb₀];have:=Nat.div_add_mod j n;omega
def jG(F:Nat->Nat):Nat->Nat
 | 0=>0
 | n+1=>jG F n+F n
theorem kb{F G:Nat->Nat}:∀{n:Nat},(∀x,x<n->F x=G x)->jG F n=jG G n
 | 0,_=>rfl
 | n+1,h=>by rw[jG,jG,kb fun x hx=>h x byO,h n byO]
theorem pX{F G:Nat->Nat}{x0:Nat}:∀{n:Nat},(∀x,x<n->G x=if x=x0 then F x+1 else F x)->jG G n=jG F n+if x0<n then 1 else 0
 | 0,_=>rfl
 | n+1,h=>by
  rw[jG,jG,pX (F:=F) (x0:=x0) (n:=n) fun x hx=>h x byO,h n byO];by_cases e:n=x0
  ·subst e;simp;omega
  ·rw[if_neg e]
   by_cases e2:x0<n
   ·rw[if_pos e2,if_pos byO];omega
   ·rw[if_neg e2,if_neg byO];omega
theorem uZ:∀n,jG (fun _=>0) n=0
 | 0=>rfl
 | n+1=>by rw[jG,uZ n]
theorem sg{n:Nat}(hn:0<n)(φ:Nat->Nat->Bool):∀N,jG (fun x=>(sel (φ x) (cnt N n x)).length) n=(sel (fun j=>φ (j%n) (j/n)) N).length
 | 0=>by
  have:∀x,x<n->cnt 0 n x=0:=fun x hx=>by unfold cnt;exact Nat.div_eq_of_lt byO
  rw[kb (G:=fun _=>0) fun x hx=>by rw[this x hx];rfl,uZ];rfl
 | N+1=>by
  have ih:=sg hn φ N;have hx:=Nat.mod_lt N hn;rw[bZ,as₀,<-ih];by_cases h:φ (N%n) (N/n)=true
  ·rw[if_pos h]
   rw[pX (F:=fun x=>(sel (φ x) (cnt N n x)).length) (x0:=N%n) fun x hx2=>?_,if_pos hx]
   ·rfl
   ·rw[wy hx2]
    by_cases e:x=N%n
    ·subst e
     rw[if_pos rfl,if_pos rfl,bZ,ED hn,if_pos h];simp
    ·rw[if_neg e,if_neg (fun h=>e h.symm)]
  ·rw[if_neg h,an₀,Nat.add_zero]
   refine kb fun x hx2=>?_;rw[wy hx2];by_cases e:N%n=x
   ·subst e
    rw[if_pos rfl,bZ,ED hn,if_neg h,List.append_nil]
   ·rw[if_neg e]
def ft{α:Type}(l:List α)(d:α)(n x:Nat):List α:=(List.range (cnt l.length n x)).map fun k=>l.getD (x+k*n) d
theorem jq{α:Type}(l:List α)(d:α)(n x:Nat):(ft l d n x).length=cnt l.length n x:=by simp[ft]
abbrev F1:FD:=fB 301
abbrev g1:El F1:=eB 301 2
theorem GB:OkF 2 256 301 (fB 301):=⟨OkC.ok,rfl,rfl,rfl⟩
theorem x9:Gn (OkC.ok (f:=fB 301)) (eB 301 2):=by
 refine⟨by decide,JW bf301 Mn,fun x h1 h2 h=>?_⟩;have h3:x.val=1:=by
  have:x.val<2:=h2;omega
 have:x=eB 301 1:=El.ext h3;subst this;exact yB h
theorem Dv{c:Nat}(h1:1<=c)(h2:c<=254):CdOK F1 c 1:=⟨h1,h2,by decide⟩
theorem Gw(e:List (El F1))(n x:Nat):ft (eH e) 0 n x=eH (ft e 0 n x):=by
 unfold ft eH;rw[ay₀,List.map_map];refine List.map_congr_left fun k _=>?_;simp only[Function.comp,au₀,az₀];cases e[x+k*n]?<;>rfl
theorem Ht{e:List (El F1)}{n x k:Nat}(hx:x<n):co (ft e 0 n x) k=if k<cnt e.length n x then co e (x+k*n) else 0:=by
 unfold co ft;rw[au₀,az₀];by_cases h:k<cnt e.length n x
 ·rw[if_pos h,List.getElem?_range h];rfl
 ·rw[if_neg h,av₀ (by simpa using h)];rfl
theorem KB(e:List (El F1))(j:Nat):(eH e).getD j 0=(((e.getD j 0).val:Nat):Int):=by
 simp only[eH,au₀,az₀];cases e[j]?<;>rfl
noncomputable def QB(r:Nat)(d:List (El F1)):List (El F1):=@Classical.epsilon _ ⟨[]⟩ fun w=>IsEnc g1 r 1 d w
theorem IS{r:Nat}{d w:List (El F1)}(hc:CdOK F1 r 1)(h:IsEnc g1 r 1 d w):w=QB r d:=
 Ec x9 hc h (@Classical.epsilon_spec _ (fun w=>IsEnc g1 r 1 d w) ⟨w,h⟩)
noncomputable def Dz.W(z:Dz)(e:List (El F1))(x:Nat):List (El F1):=QB z.ck (ft e 0 z.n x)
noncomputable def ilv(n:Nat)(W:Nat->List (El F1))(N:Nat):List Int:=(List.range N).map fun j=>(((co (W (j%n)) (j/n)).val:Nat):Int)
theorem mE(n:Nat)(W:Nat->List (El F1))(N:Nat):(ilv n W N).length=N:=by simp[ilv]
theorem FN{W:Nat->List (El F1)}{N j:Nat}(h:j<N):(ilv n W N).getD j 0=(((co (W (j%n)) (j/n)).val:Nat):Int):=by
 unfold ilv;rw[au₀,az₀,List.getElem?_range h];rfl
theorem mD{W:Nat->List (El F1)}{x k:Nat}(hx:x<n):(x+k*n)%n=x/\(x+k*n)/n=k:=by
 refine⟨?_,?_⟩
 ·rw[Nat.add_mul_mod_self_right,Nat.mod_eq_of_lt hx]
 ·rw[Nat.add_mul_div_right _ _ byO,Nat.div_eq_of_lt hx,Nat.zero_add]
theorem CX{V W:Nat->List (El F1)}{N:Nat}(hn:0<n)(h:∀x,x<n->V x=W x):ilv n V N=ilv n W N:=by
 unfold ilv;exact List.map_congr_left fun j _=>by rw[h _ (Nat.mod_lt j hn)]
theorem FO{z:Dz}(hz:z.Ok){e:List (El F1)}{V:Nat->List (El F1)}(he:e.length=z.d)(hV:∀x,x<z.n->IsEnc g1 z.ck 1 (ft e 0 z.n x) (V x)):ilv z.n V z.d=eH e:=by
 have hn:0<z.n:=hz.n1;refine List.ext_getElem (by rw[mE,dW,he]) fun j h1 h2=>?_;rw[mE]at h1;have hj:=kE hn h1;have hx:=Nat.mod_lt j hn;have hd:=(hV _ hx).dat (j/z.n) (by rw[jq,he];exact hj);rw[Ht hx,he,if_pos hj]at hd;have e1:j%z.n+j/z.n*z.n=j:=by rw[bb₀];have:=Nat.div_add_mod j z.n;omega
 rw[e1]at hd;have q1:=FN (n:=z.n) (W:=V) h1;rw[au₀,bc₀ (by rw[mE];exact h1),aq₀]at q1;have q2:=KB e j;rw[au₀,bc₀ h2,aq₀]at q2;rw[q1,hd,q2];rfl
def wdE(z:Dz)(wl:List Int)(x:Nat):List (El F1):=(ft wl 0 z.n x).map fun v=>eB 301 v.toNat
theorem mY(z:Dz)(wl:List Int)(x:Nat):(wdE z wl x).length=cnt wl.length z.n x:=by unfold wdE;rw[ay₀,jq]
theorem Mu{q:Int}{l:List Int}(h:inF q l=true){v:Int}(hv:v ∈ l):0<=v/\v<q:=by
 have:=List.all_eq_true.1 h v hv;simpa using this
theorem KE{z:Dz}{wl:List Int}(h:inF 256 wl=true)(x:Nat):eH (wdE z wl x)=ft wl 0 z.n x:=by
 unfold eH wdE;rw[List.map_map];refine(List.map_congr_left fun v hv=>?_).trans (List.map_id _);have hb:0<=v/\v<256:=by
  unfold ft at hv;obtain⟨k,_,rfl⟩:=List.mem_map.1 hv;rw[au₀];rcases hq:wl[x+k*z.n]? with _|u
  ·exact⟨by decide,by decide⟩
  ·exact Mu h (List.mem_of_getElem? hq)
 show(((v.toNat%256:Nat)):Int)=v;omega
theorem M7{z:Dz}{wl:List Int}(hn:0<z.n){j:Nat}(hj:j<wl.length):co (wdE z wl (j%z.n)) (j/z.n)=eB 301 (wl.getD j 0).toNat:=by
 have h:=kE hn hj;have e1:j%z.n+j/z.n*z.n=j:=by rw[bb₀];have:=Nat.div_add_mod j z.n;omega
 unfold co wdE ft;rw[au₀,az₀,az₀,List.getElem?_range h];simp only[Option.map_some,aq₀,e1]
def OkX(z:Dz)(wl:List Int)(x:Nat):Prop:=DecOK g1 z.ck 1 (wdE z wl x) (erI [])
noncomputable def fxX(z:Dz)(wl:List Int)(x:Nat):List (El F1):=mb g1 z.ck 1 (wdE z wl x) (erI [])
theorem I2(z:Dz)(wl:List Int)(x:Nat):(fxX z wl x).length=cnt wl.length z.n x:=by unfold fxX;rw[lM,mY]
noncomputable def nch(z:Dz)(wl:List Int)(x:Nat):Nat:=(sel (fun i=>decide (co (fxX z wl x) i≠co (wdE z wl x) i)) (wdE z wl x).length).length
theorem Fx(z:Dz)(wl:List Int)(x:Nat):nch z wl x<=cnt wl.length z.n x:=by
 have:=List.length_filter_le (fun i=>decide (co (fxX z wl x) i≠co (wdE z wl x) i)) (List.range (wdE z wl x).length);rw[List.length_range]at this;exact Nat.le_trans this (Nat.le_of_eq (mY z wl x))
set_option maxRecDepth 20000
def Dz.sz(z:Dz):Sz:=⟨z.a,z.b,z.ra,z.rb,z.d,z.c,z.n⟩
theorem Of:szs=(List.range 30).map fun i=>(dz i).sz:=by kernel_rfl
theorem mV{s:Sz}:s ∈ szs↔∃i,i<30/\s=(dz i).sz:=by
 rw[Of,List.mem_map];constructor
 ·rintro⟨i,hi,rfl⟩;exact⟨i,List.mem_range.1 hi,rfl⟩
 ·rintro⟨i,hi,rfl⟩;exact⟨i,List.mem_range.2 hi,rfl⟩
theorem Oa(hlo:lo<=H.length):Ev cp lo 55 [] H (fun v H'=>∃j,H.length<=j/\v=.slice (some ⟨j,0,none⟩) 30 30/\H'.get j=some szCells/\Ext H H'):=qe hlo
theorem Gz{a b:Sz}:a=b↔a.r=b.r/\a.c=b.c/\a.rr=b.rr/\a.rc=b.rc/\a.d=b.d/\a.k=b.k/\a.b=b.b:=by
 cases a;cases b;simp
theorem index{j:Nat}{s:Sz}(hg:H.get j=some szCells):Ev cp lo 99 [.slice (some ⟨j,0,none⟩) 30 30,s.val] H (fun v H'=>Ext H H'/\∃k:Int,v=.int .i64 k/\decide (0<=k)=decide (s ∈ szs)):=by
 have hj:=Heap.get_lt hg;refine stG rfl rfl ?_;unfold MS;simp only[kB,aC];refine AU ?_;refine bK (fun m S H'=>∃(i:Int) (x4:Value),0<=i/\i<=30/\m=(30-i).toNat/\S=[.slice (some ⟨j,0,none⟩) 30 30,s.val,.pointer (some ⟨H.length,0,none⟩),.int .i64 0,x4,.int .i64 30,.int .i64 i]/\H'=H++[some s.cells]/\¬ s ∈ szs.take i.toNat) 30 ?_ ?_
 ·exact⟨0,_,byO,byO,byO,rfl,rfl,by simp⟩
 rintro m S H2 ⟨i,x4,hi0,hi1,rfl,rfl,rfl,hno⟩;(try simp only[aC]);refine R1 ?_ ?_<;>intro h
 ·have hi:i<30:=by simpa using h
  clear h;have hrow:=jB (i:=i.toNat) byO;have hlen:=g9;have hse:=Ls (a:=s) (b:=bx i.toNat);simp only[Sz.cells]at hse;have hmem:=bC (i:=i.toNat) byO;refine AU ?_;refine R1 ?_ ?_<;>intro h
  ·have he:s=bx i.toNat:=by rw[Gz];simpa using h
   clear h;refine AU ?_;refine Ot ?_;refine⟨Ext.app _ _,i,rfl,?_⟩;rw[he];simp[hmem,hi0]
  ·have he:¬ s=bx i.toNat:=by rw[Gz];simpa using h
   clear h;refine AU ?_;simp only[cM];refine⟨(30-(i+1)).toNat,byO,i+1,_,byO,byO,rfl,rfl,by trivial,?_⟩;rw[show(i+1).toNat=i.toNat+1 by omega,iL byO];intro hm;rcases List.mem_append.1 hm with hm|hm
   ·exact hno hm
   ·simp at hm;exact he hm
 ·obtain rfl:i=30:=by simp at h;omega
  clear h;refine AU ?_;refine Ot ?_;refine⟨Ext.app _ _,-1,rfl,?_⟩;rw[List.take_of_length_le (by rw[gN];omega)]at hno;simp[hno]
theorem contains{j:Nat}{s:Sz}(hg:H.get j=some szCells):Ev cp lo 54 [.slice (some ⟨j,0,none⟩) 30 30,s.val] H (fun v H'=>Ext H H'/\v=.bool (decide (s ∈ szs))):=by
 have hj:=Heap.get_lt hg;refine stG rfl rfl ?_;unfold MQ;simp only[kB,aC];refine AU ?_;refine TG ?_;refine aA (index (s:=s) (j:=j) KH) ?_;rintro v H1 ⟨hx,k,rfl,hk⟩;refine AU ?_;refine Ot ?_;exact⟨hx.of_app,by simp only[aM,hk]⟩
def kr(s:Sz)(l:List Int)(n:Int):Int:=if ¬ s ∈ szs then 14 else if (l.length:Int)≠n then 7 else if inF 256 l=true then 0 else 3
section
variable {lo:Nat}{H:Heap}{s:Sz}
theorem He{l:List Int}(hi:i<l.length)(h:inF 256 l=true):0<=l.getD i 0/\l.getD i 0<=255:=by
 have:=(iE (sz:=256)).1 h (l.getD i 0) (by rw[au₀,bc₀ hi];exact List.getElem_mem hi);omega
theorem FQ{l:List Int}(hi:i<l.length)(hin:inF 256 (l.take i)=true)(h0:0<=l.getD i 0)(h1:l.getD i 0<=255):inF 256 (l.take (i+1))=true:=by
 have hs:=gH (p:=fun x=>!(decide (x<0) || decide ((256:Int)<=x))) hi;unfold inF at hin ⊢;rw[hs,hin];simp only[Bool.true_and,Bool.not_eq_true',Bool.or_eq_false_iff,ai₀];omega
namespace XYd
def xtr:=zzi @Int.cast_ofNat_Int (zzi @fv.eq_1 (zzi @fvf.eq_1 (zzi @ite_self.{1} (zzi @lT (zzi @lS (zzi @lR (zzi @cdC.eq_1 (zzi @arC.eq_1 @Sz.cells.eq_1))))))))
end XYd
open XYd
theorem Dy{v:Value}{l:List Int}{n:Int}(hl:SlI H v l)(hll:l.length<=1000000000)(hlo:lo<=H.length):Ev cp lo 27 [v,s.val,.int .i64 n] H (fun r H'=>Ext H H'/\r=.int .i64 (kr s l n)):=by
 have hl0:=hl;obtain⟨ad,c,rfl⟩:=hl.len;refine stG rfl rfl ?_;unfold PH;simp only[kB,aC];refine aD ?_;generalize hG:H++_=G at *;obtain⟨g0,hxG⟩:=de hG;clear hG;have hlG:=hxG.1;refine aV ?_;refine aa (Oa (Nat.le_refl _)) ?_;rintro r H1 ⟨j,hj,rfl,hg,hx1⟩;have g0:=hx1.get g0;have hx1:=hxG.trans hx1;(try simp only[aC]);refine aV ?_;refine iU (first:=#[]) (cap:=#[]) (args:=[.slice (some ⟨j,0,none⟩) 30 30,s.val]) (contains (s:=s) hg) ?_;rintro r H2 ⟨hx2,rfl⟩;have hx2:=hx1.trans hx2;clear hg hj hx1 g0;have hl2:=hx2.1;(try simp only[aC]);by_cases hs:s ∈ szs
 case neg=>
  have he:kr s l n=14:=if_pos hs;rw[he];refine ah ?_ ?_<;>intro h
  case refine_2=>exfalso;simp[hs]at h
  clear h;refine aD ?_;refine az ?_;exact⟨hx2,rfl⟩
 have he:kr s l n=if (l.length:Int)≠n then 7 else if inF 256 l=true then 0 else 3:=if_neg (fun h=>h hs)
 rw[he];clear he;refine ah ?_ ?_<;>intro h
 ·exfalso;simp[hs]at h
 clear h;(try simp only[aC]);by_cases hn:(l.length:Int)=n
 case neg=>
  rw[if_pos hn];refine ah ?_ ?_<;>intro h
  case refine_2=>exfalso;simp at h;exact hn h
  clear h;refine aD ?_;refine az ?_;exact⟨hx2,rfl⟩
 rw[if_neg (fun h=>h hn)];subst hn;refine ah ?_ ?_<;>intro h
 ·simp at h
 clear h;refine aD ?_;refine aT (fun i S H'=>H2=H'/\inF 256 (l.take i)=true/\∃(z:Nat->Value),S=[z 0,z 1,z 2,z 3,z 4,z 5,z 6,z 7,z 8,.slice ad l.length c,.int .i64 (l.length:Nat),.int .i64 (i:Nat)]) l.length ?_ ?_ ?_ ?_
 ·exact⟨rfl,rfl,aJ rfl⟩
 ·rintro i S H' hi ⟨rfl,-,z,rfl⟩
  exact⟨_,bD,by simp⟩
 ·rintro i S H' hi ⟨rfl,hin,z,rfl⟩
  obtain⟨b,o,sp,cap,xs,e,gx,hat,hxl⟩:=(hl0.mono hx2).els 0 byO;cases e;have hati:=hat i hi;have hok:=FQ hi hin;clear hat;refine aD ?_;by_cases hb:0<=l.getD i 0/\l.getD i 0<=255
  ·replace hok:=hok hb.1 hb.2
   generalize l.getD i 0=y at *;refine ah ?_ ?_<;>intro h
   ·exfalso;simp at h;omega
   clear h;refine aD ?_;exact⟨by trivial,hok,aJ ncM⟩
  ·have hno:¬ inF 256 l=true:=fun h=>hb (He hi h)
   rw[if_neg hno];clear hok hin hno;generalize l.getD i 0=y at *;refine ah ?_ ?_<;>intro h
   case refine_2=>exfalso;simp at h;omega
   clear h;refine aD ?_;refine az ?_;exact⟨hx2,rfl⟩
 ·rintro S H' ⟨rfl,hin,z,rfl⟩
  rw[List.take_of_length_le (Nat.le_refl _)]at hin;rw[if_pos hin];refine aD ?_;refine az ?_;exact⟨hx2,rfl⟩
theorem Hj(hlo:lo<=H.length):Ev cp lo 56 [.int .i64 8,.int .i64 301] H (fun r H'=>Ext H H'/\r=.tuple #[fv 2 256 301,.int .i64 0]):=by
 have hsh:IntKind.i64.wrap (1*2^(min (8:Int).toNat IntKind.i64.bits))=256:=by decide
 refine stG rfl rfl ?_;unfold PU;simp only[kB,aC];refine aD ?_;refine ah ?_ ?_<;>intro h
 ·simp at h
 clear h;refine aD ?_;generalize hG:H++_=G at *;obtain⟨g0,hxG⟩:=de hG;have g1:Heap.get G (H.length+1)=some [Value.int .i64 2,Value.int .i64 256,Value.int .i64 301]:=by rw[<-hG,bO];rfl
 clear hG;refine aV ?_;refine aA (valid (ch:=2) (sz:=256) (po:=301) (by decide)) ?_;rintro r H1 ⟨hx1,t,rfl,ht⟩;have htt:t=true:=ht.2 ⟨_,GB⟩;subst htt;clear ht;have g0:=(hx1).get g0;have g1:=(hx1).get g1;have hx1:=hxG.trans hx1;have hl1:=Heap.get_lt g1;(try simp only[aC]);refine ah ?_ ?_<;>intro h
 ·cases h
 clear h;refine aD ?_;refine az ?_;exact⟨hx1.set byO,rfl⟩
end
open XYd
section
variable {lo:Nat}{H:Heap}
theorem Le(hi:i<30)(hlo:lo<=H.length):Ev cp lo 28 [(dz i).sz.val] H (fun r H'=>Ext H H'/\r=.tuple #[cdV (fB 301) (dz i).ck 1,.int .i64 0]):=by
 have hz:=tj hi;generalize dz i=z at *;obtain⟨n1,n2,dn,d2,c2,-,k1,k2,al⟩:=hz;have hok:yh 2 256 301 (z.ck:Nat) 1:=⟨⟨_,GB⟩,byO,byO,byO,byO⟩;have hdiv:(z.c:Int).tdiv (z.n:Int)=(z.ck:Nat):=(Int.ofNat_tdiv z.c z.n).symm;unfold Dz.sz Sz.val;refine stG rfl rfl ?_;unfold PI;simp only[kB,aC];refine aD ?_;generalize hG:H++_=G at *;obtain⟨g0,hxG⟩:=de hG;have g1:Heap.get G (H.length+1)=some (List.replicate 5 (Value.int .i64 0)):=by rw[<-hG,bO];rfl
 clear hG;have hlG:=Heap.get_lt g1;refine aV ?_;refine aA (Hj byO) ?_;rintro r H1 ⟨hx1,rfl⟩;have g0:=(hx1).get g0;have g1:=(hx1).get g1;have hx1:=hxG.trans hx1;have hl1:=Heap.get_lt g1;unfold fv;refine aD ?_;generalize hG:H1++_=G1 at *;obtain⟨g2,hxG1⟩:=de hG;clear hG;have g0:=(hxG1).get g0;have g1:=(hxG1).get g1;have hx2:=hx1.trans hxG1;have hl2:=hx2.1;refine ah ?_ ?_<;>intro h
 ·cases h
 clear h;(try simp only[aC]);refine aV ?_;refine iU (first:=#[]) (cap:=#[]) (args:=[fv 2 256 301,.int .i64 (z.ck:Nat),.int .i64 1]) (Sf (ch:=2) (sz:=256) (po:=301) (r:=(z.ck:Nat)) (b:=1) byO byO) ?_;rintro r H3 ⟨hx3,-,-,hv⟩;rw[hv hok];clear hv;have g0:=(hx3).get g0;have g1:=(hx3).get g1;have hx3:=hx2.trans hx3;have hl3:=Heap.get_lt g1;unfold cdI;refine aD ?_;refine az ?_;exact⟨hx3.set byO,rfl⟩
theorem DJ{l:List Int}{n x k:Nat}(hx:x<n)(hk:k<cnt l.length n x):(ft l 0 n x).take (k+1)=(ft l 0 n x).take k++[l.getD (x+k*n) 0]:=by
 rw[List.take_add_one];congr 1;unfold ft;rw[az₀,List.getElem?_range hk];rfl
end
end Go.Proofs.YtmnlgdpdgjbfgaaGreat
namespace Go.Proofs.YtmnlgdpdgjbfgaaGreat
open Go.Abs Go.RS
variable{v:Value}{n:Nat}
section
variable {lo:Nat}{H:Heap}
theorem step_eq(x k n:Nat):((x+k*n:Nat):Int)+(n:Nat)=((x+(k+1)*n:Nat):Int):=by
 have:=Nat.succ_mul k n;rw[show(k+1)*n=k*n+n from this];omega
theorem Hq{N n x:Nat}(hx:x<n):cnt N n x<=N:=by
 apply Nat.le_of_not_lt;intro h;rw[eP hx]at h;have:=Nat.le_mul_of_pos_right N (show 0<n by omega);omega
namespace XYe
def xtr:=zzi @Int.cast_ofNat_Int @ite_self.{1}
end XYe
open XYe
theorem Dh{l:List Int}{n x:Nat}(hl:SlI H v l)(hll:l.length<=1000000000)(hx:x<n)(hn:n<=1000)(hlo:lo<=H.length):Ev cp lo 30 [v,.int .i64 (n:Nat),.int .i64 (x:Nat)] H (fun r H'=>Ext H H'/\SlI H' r (ft l 0 n x)):=by
 have hl0:=hl;obtain⟨ad,c,rfl⟩:=hl.len;refine stG rfl rfl ?_;unfold PK;simp only[kB,aC];refine aD ?_;have e0:((x:Nat):Int)=((x+0*n:Nat):Int):=by simp
 refine aT (fun k S H'=>Ext H H'/\∃(vo:Value) (bo:Nat),Own H.length 1 H' vo bo (ak ((ft l 0 n x).take k))/\∃(z:Nat->Value),S=[.slice ad l.length c,.int .i64 (n:Nat),z 2,z 3,vo,.int .i64 (x+k*n:Nat),z 6,z 7,z 8]) (cnt l.length n x) ?_ ?_ ?_ ?_
 ·exact⟨Ext.refl _,_,_,Own.nil (Nat.le_refl _),aJ (by simp only[Nat.zero_mul,Nat.add_zero];rfl)⟩
 ·rintro k S H' hk ⟨hx1,vo,bo,-,z,rfl⟩
  exact⟨_,bD,by rw[eP hx];simp only[af₀];omega⟩
 ·rintro k S H2 hk ⟨hx2,vo,bo,oo,z,rfl⟩
  have hl2:=hx2.1;have hkl:=(eP hx).1 hk;have hcl:((ft l 0 n x).take k).length<=1000000000:=by
   rw[List.length_take,jq];have:=Hq (N:=l.length) hx;omega
  have hsn:=DJ (l:=l) hx hk;have hse:=step_eq x k n;obtain⟨xb,xo,xsp,xc,xs,e1,g1,f1,_⟩:=(hl0.mono hx2).els 0 byO;cases e1;have k1:=f1 _ hkl;have hxg:=Heap.get_lt g1;clear f1 e0;rw[hsn];clear hsn;generalize (ft l 0 n x).take k=acc at *;generalize x+k*n=p at *;generalize x+(k+1)*n=p' at *;generalize l.getD p 0=y at *;replace hse:False\/_:=.inr hse;refine aD ?_;refine aV ?_;refine gQ (b:=bo) (cells:=ak acc) (c:=ak [y]) ((oo.mono (Ext.app _ _)).lower byO) (by simp;omega) byO byO (by rw[jh];omega) aH (by simp) rfl rfl ?_;rw[<-rk];intro vo' H3 oo' hk3 hl3;have hx3:=hk3.ext (hx2.trans (Ext.app H2 _)) oo.1;refine aD ?_;exact⟨hx3,vo',_,⟨by simp;omega,oo'.2⟩,aJ (by rw[hse.resolve_left id];rfl)⟩
 ·rintro S H2 ⟨hx2,vo,bo,oo,z,rfl⟩
  rw[List.take_of_length_le (by rw[jq];exact Nat.le_refl _)]at oo;refine aD ?_;refine az ?_;exact⟨hx2,Sl.ofOwn oo⟩
end
open Go.Abs Go.RS
theorem Cv{n k:Nat}{F G:Nat->Int}(hk:k<n)(h:∀i,i<n->i≠k->G i=F i):((List.range n).map F).set k (G k)=(List.range n).map G:=by
 refine List.ext_getElem (by simp) fun i h1 h2=>?_;rw[List.getElem_set];simp only[List.getElem_map,List.getElem_range];split
 ·rename_i e;rw[e]
 ·rename_i e
  rw[h i (by simpa using h2) (fun e2=>e e2.symm)]
def mix(n:Nat)(V:Nat->Int)(T x i:Nat):List Int:=(List.range T).map fun j=>if j%n<x\/(j%n=x/\j/n<i) then V j else 0
theorem BC(n:Nat)(V:Nat->Int)(T x i:Nat):(mix n V T x i).length=T:=by simp[mix]
theorem Lo(n:Nat)(V:Nat->Int)(T:Nat):mix n V T 0 0=List.replicate T 0:=by
 unfold mix;rw[List.map_congr_left (g:=fun _=>(0:Int)) (fun j _=>if_neg (fun h=>h.elim (fun h=>absurd h (Nat.not_lt_zero _)) fun h=>absurd h.2 (Nat.not_lt_zero _))),List.map_const',List.length_range]
theorem BD{V:Nat->Int}{T x i:Nat}(hx:x<n)(h:x+i*n<T):(mix n V T x i).set (x+i*n) (V (x+i*n))=mix n V T x (i+1):=by
 have hb:=mD (n:=n) (W:=fun _=>[]) (k:=i) hx;have:=Cv (F:=fun j=>if j%n<x\/(j%n=x/\j/n<i) then V j else 0) (G:=fun j=>if j%n<x\/(j%n=x/\j/n<i+1) then V j else 0) h (fun j _ hj=>by
  by_cases h1:j%n<x\/(j%n=x/\j/n<i)
  ·rw[if_pos h1,if_pos byO]
  ·rw[if_neg h1,if_neg]
   rintro(h2|⟨h2,h3⟩)
   ·exact h1 (.inl h2)
   ·by_cases h4:j/n=i
    ·apply hj
     have:=Nat.div_add_mod j n;rw[h2,h4,bb₀]at this;omega
    ·exact h1 (.inr ⟨h2,byO⟩))
 rw[hb.1,hb.2,if_pos (.inr ⟨rfl,byO⟩)]at this;exact this
theorem Fj{V:Nat->Int}{T x i:Nat}(hx:x<n)(hi:i=cnt T n x):mix n V T x i=mix n V T (x+1) 0:=by
 unfold mix;refine List.map_congr_left fun j hj=>?_;have hj:=List.mem_range.1 hj;have h1:=kE (N:=T) (n:=n) byO hj;by_cases h:j%n<x\/(j%n=x/\j/n<i)
 ·rw[if_pos h,if_pos byO]
 ·rw[if_neg h,if_neg]
  rintro(h2|h2)
  ·by_cases h3:j%n=x
   ·rw[h3]at h1;exact h (.inr ⟨h3,byO⟩)
   ·exact h (.inl byO)
  ·exact absurd h2.2 (Nat.not_lt_zero _)
theorem BB{V:Nat->Int}{T:Nat}(hn:0<n):mix n V T n 0=(List.range T).map V:=by
 unfold mix;exact List.map_congr_left fun j _=>if_pos (.inl (Nat.mod_lt j hn))
theorem uw{z:Dz}(hz:z.Ok){x:Nat}(hx:x<z.n):cnt (z.d+z.c) z.n x=cnt z.d z.n x+z.ck/\0<cnt z.d z.n x/\cnt z.d z.n x+z.ck<=250:=by
 have h1:cnt (z.d+z.c) z.n x=cnt z.d z.n x+z.ck:=by
  have:=Hp (N:=z.d) (n:=z.n) (k:=z.ck) hx;rw[<-hz.cn]at this;exact this
 refine⟨h1,(eP hx).2 (by have:=hz.dn;omega),?_⟩;rw[<-h1];apply Nat.le_of_not_lt;intro h;rw[eP hx]at h;have:=hz.all;omega
def yi(s:Sz)(l:List Int)(N:Nat)(H:Heap)(r:Value):Prop:=
 (kr s l s.d≠0->r=.tuple #[.slice none 0 0,.int .i64 (kr s l s.d)]) /\
 (∀i,i<30->s=(dz i).sz->∀e:List (El F1),l=eH e->e.length=(dz i).d->∃b,N<=b/\r=.tuple #[.slice (some ⟨b,0,none⟩) ((dz i).d+(dz i).c) ((dz i).d+(dz i).c),.int .i64 0]/\H.get b=some (ak (ilv (dz i).n ((dz i).W e) ((dz i).d+(dz i).c)))/\∀x,x<(dz i).n->IsEnc g1 (dz i).ck 1 (ft e 0 (dz i).n x) ((dz i).W e x))
theorem E9{s:Sz}{l:List Int}{n:Int}(h:kr s l n=0):s ∈ szs/\(l.length:Int)=n/\inF 256 l=true:=by
 unfold kr at h;split at h
 ·simp at h
 ·rename_i h1
  split at h
  ·simp at h
  ·rename_i h2
   split at h
   ·rename_i h3
    exact⟨Decidable.not_not.1 h1,Decidable.not_not.1 h2,h3⟩
   ·simp at h
theorem uz{s:Sz}{l:List Int}{n:Int}(h1:s ∈ szs)(h2:(l.length:Int)=n)(h3:inF 256 l=true):kr s l n=0:=by
 unfold kr;rw[if_neg (fun h=>h h1),if_neg (fun h=>h h2),if_pos h3]
theorem w5{i j:Nat}(hi:i<30)(hj:j<30)(h:(dz i).sz=(dz j).sz):dz i=dz j:=by
 have:∀i,i<30->∀j,j<30->(dz i).sz=(dz j).sz->i=j:=by decide +kernel
 rw[this i hi j hj h]
section
variable {lo:Nat}{H:Heap}{s:Sz}
namespace XYf
def xtr:=zzi @Int.cast_ofNat_Int (zzi @ite_self.{1} @Sz.cells.eq_1)
end XYf
open XYf
set_option maxHeartbeats 1000000 in
theorem Qj{l:List Int}(hl:SlI H v l)(hll:l.length<=1000000000)(hlo:lo<=H.length):Ev cp lo 13 [v,s.val] H (fun r H'=>Ext H H'/\yi s l H.length H' r):=by
 have hl0:=hl;obtain⟨ad,c,rfl⟩:=hl.len;refine stG rfl rfl ?_;unfold PD;simp only[kB,aC];refine aD ?_;generalize hG:H++_=G at *;obtain⟨g0,hxG⟩:=de hG;clear hG;have hlG:=hxG.1;refine aV ?_;refine aA (Dy (s:=s) (n:=s.d) (hl.mono hxG) hll byO) ?_;rintro r H1 ⟨hx1,rfl⟩;have g0:=hx1.get g0;have hx1:=hxG.trans hx1;have hl1:=hx1.1;refine aD ?_;by_cases he:kr s l s.d=0
 case neg=>
  have hg:yi s l H.length H1 (.tuple #[.slice none 0 0,.int .i64 (kr s l s.d)]):=by
   refine⟨fun _=>rfl,fun i hi hs e hle hlen=>absurd (uz (mV.2 ⟨i,hi,hs⟩) ?_ ?_) he⟩
   ·rw[hle,dW,hlen,hs];rfl
   ·rw[hle];exact ij (f:=F1) e
  generalize kr s l s.d=ee at *;refine ah ?_ ?_<;>intro h
  case refine_2=>exfalso;simp at h;exact he h
  clear h;refine aD ?_;refine az ?_;exact⟨hx1,hg⟩
 obtain⟨hs,hln,hin⟩:=E9 he;obtain⟨i0,hi0,hs0⟩:=mV.1 hs;obtain⟨e,hle⟩:=RP (f:=F1) hin;replace hle:l=eH e:=hle;rw[he];subst hs0;have hg:∀{H':Heap} {b:Nat},H.length<=b->Heap.get H' b=some (ak (ilv (dz i0).n ((dz i0).W e) ((dz i0).d+(dz i0).c)))->(∀x,x<(dz i0).n->IsEnc g1 (dz i0).ck 1 (ft e 0 (dz i0).n x) ((dz i0).W e x))->yi (dz i0).sz l H.length H' (.tuple #[.slice (some ⟨b,0,none⟩) ((dz i0).d+(dz i0).c) ((dz i0).d+(dz i0).c),.int .i64 0]):=by
  intro H' b hb hh hw;refine⟨fun h=>absurd he h,fun i hi hs e2 hle2 hlen2=>?_⟩;have h3:=w5 hi0 hi hs;have h4:e=e2:=List.map_inj_right (f:=fun x:El F1=>((x.val:Nat):Int)) (fun x y h=>El.ext byO) |>.1 (show eH e=eH e2 by rw[<-hle,<-hle2]);subst h4;rw[<-h3];exact⟨b,hb,rfl,hh,hw⟩
 have hcode:=fun {H:Heap} {lo:Nat} (h:lo<=H.length)=>Le (H:=H) hi0 h;have hz:=tj hi0;clear he hs hin;generalize dz i0=zz at *;have hel:e.length=zz.d:=by
  have h1:l.length=e.length:=by rw[hle];exact dW e
  have h2:(l.length:Int)=(zz.d:Int):=hln;omega
 have hlz:l.length=zz.d:=by rw[<-hel,hle];exact dW e
 clear hln;replace hle:False\/_:=.inr hle;replace hlz:l.length<=zz.d/\zz.d<=l.length:=byO;replace hel:False\/_:=.inr hel;have n1:=hz.n1;have n2:=hz.n2;have dn:=hz.dn;have d2:=hz.d2;have c2:=hz.c2;have k1:=hz.k1;have k2:=hz.k2;unfold Dz.sz Sz.val at *;simp only[Sz.cells]at *;refine ah ?_ ?_<;>intro h
 ·cases h
 clear h;(try simp only[aC]);refine aV ?_;refine aA (hcode byO) ?_;rintro r H2 ⟨hx2,rfl⟩;have g0:=hx2.get g0;have hq2:=Heap.get_lt g0;have hx2:=hx1.trans hx2;have hl2:=hx2.1;clear hcode;unfold cdV;refine aD ?_;generalize hG:H2++_=G1 at *;obtain⟨gc,hxG1⟩:=de hG;clear hG;have g0:=hxG1.get g0;have hxc:=hx2.trans hxG1;have hlc:=hxc.1;have hlt0:=Heap.get_lt gc;refine ah ?_ ?_<;>intro h
 ·cases h
 clear h;(try simp only[aC]);obtain⟨T,hT1,hT2⟩:∃T:Nat,T<=zz.d+zz.c/\zz.d+zz.c<=T:=⟨_,Nat.le_refl _,Nat.le_refl _⟩;have hTT:zz.d+zz.c=T:=byO;rw[hTT]at hg;have hTi:(zz.d:Int)+(zz.c:Int)=((T:Nat):Int):=byO;have hca:∀x,x<zz.n->(cnt T zz.n x<=cnt zz.d zz.n x+zz.ck/\cnt zz.d zz.n x+zz.ck<=cnt T zz.n x)/\0<cnt zz.d zz.n x/\cnt zz.d zz.n x+zz.ck<=250:=fun x hx=>by
  have:=uw hz hx;rw[hTT]at this;omega
 clear hTT hz;refine aD ?_;clear hTi;generalize hG:G1++_=G2 at *;obtain⟨gt,hxG2⟩:=de hG;clear hG;generalize hV:(fun j=>(((co (zz.W e (j%zz.n)) (j/zz.n)).val:Nat):Int))=V at *;have gt:Heap.get G2 G1.length=some (ak (mix zz.n V T 0 0)):=by
  rw[gt,Lo]
 have g0:=hxG2.get g0;have gc:=hxG2.get gc;have hxd:=hxc.trans hxG2;have hltt:=Heap.get_lt gt;refine aT (fun x S H'=>Keep G1.length G2 H'/\Heap.get H' G1.length=some (ak (mix zz.n V T x 0))/\(∀y,y<x->IsEnc g1 zz.ck 1 (ft e 0 zz.n y) (zz.W e y))/\∃(z:Nat->Value),S=[.slice ad l.length c,z 1,.pointer (some ⟨H.length,0,none⟩),z 3,z 4,z 5,.pointer (some ⟨H2.length,0,none⟩),z 7,.slice (some ⟨G1.length,0,none⟩) T T,z 9,z 10,z 11,z 12,z 13,z 14,z 15,z 16,z 17,z 18,.int .i64 (zz.n:Nat),.int .i64 (x:Nat),z 21,z 22,z 23,z 24,z 25,z 26]) zz.n ?_ ?_ ?_ ?_
 ·exact⟨eE (Ext.refl _),gt,byO,aJ rfl⟩
 ·rintro x S H' hx ⟨-,-,-,z,rfl⟩
  exact⟨_,bD,by simp⟩
 ·clear gt
  rintro x S H3 hx ⟨q1,gt,hw,z,rfl⟩;obtain⟨ca,cb,cc⟩:=hca x hx;have g0:=q1.get g0 byO;have gc:=q1.get gc byO;have hx3:=q1.ext hxd byO;have hl3:=hx3.1;have hsl:=hl0.mono hx3;have hq3:=q1.len;refine aD ?_;refine aV ?_;refine aa (Dh (n:=zz.n) (x:=x) hsl hll hx byO (Nat.le_refl _)) ?_;rintro r H4 ⟨hx4,hr⟩;rw[hle.resolve_left id,Gw]at hr;have hr:SlE H4 r (ft e 0 zz.n x):=B3 hr;have hsd:(ft e 0 zz.n x).length=cnt zz.d zz.n x:=by rw[jq,hel.resolve_left id]
  have gt:=hx4.get gt;have g0:=hx4.get g0;have gc:=hx4.get gc;have hq4:=hx4.1;(try simp only[aC]);refine aV ?_;refine iU (first:=#[]) (cap:=#[]) (args:=[cdV (fB 301) zz.ck 1,r]) (Eb (f:=F1) (g:=g1) (d:=ft e 0 zz.n x) byO x9 (Dv byO byO) hr byO) ?_;rintro r2 H5 ⟨hx5,⟨-,-,vw,w,rfl,hvw,hnew,hie⟩|⟨hno,-⟩⟩
  case inr=>exact absurd ⟨byO,by show _<256;omega⟩ hno
  obtain rfl:w=zz.W e x:=IS (Dv byO byO) hie;have hwl:=hie.len;rw[hsd]at hwl;have hwc:(zz.W e x).length=cnt T zz.n x:=byO;have gt:=hx5.get gt;have g0:=hx5.get g0;have gc:=hx5.get gc;have hq5:=hx5.1;have hvw0:=hvw;obtain⟨aw,cw,ew⟩:=hvw.len;rw[hwc]at ew;clear hwc;subst ew;replace hwl:cnt T zz.n x<=(zz.W e x).length/\(zz.W e x).length<=cnt T zz.n x:=byO;have hb5:=Heap.get_lt gt;clear hr;refine aD ?_;refine ah ?_ ?_<;>intro h
  ·cases h
  clear h;refine aD ?_;refine aT (fun i S H'=>Keep G1.length H5 H'/\Heap.get H' G1.length=some (ak (mix zz.n V T x i))/\∃(z:Nat->Value),S=[.slice ad l.length c,z 1,.pointer (some ⟨H.length,0,none⟩),z 3,z 4,z 5,.pointer (some ⟨H2.length,0,none⟩),z 7,.slice (some ⟨G1.length,0,none⟩) T T,.int .i64 (x:Nat),z 10,z 11,z 12,z 13,z 14,z 15,z 16,z 17,z 18,.int .i64 (zz.n:Nat),.int .i64 (x:Nat),z 21,z 22,z 23,.slice aw (cnt T zz.n x) cw,.int .i64 (cnt T zz.n x:Nat),.int .i64 (i:Nat)]) (cnt T zz.n x) ?_ ?_ ?_ ?_
  ·exact⟨eE (Ext.refl _),gt,aJ rfl⟩
  ·rintro i S H' hi ⟨-,-,z,rfl⟩
   exact⟨_,bD,by simp⟩
  ·clear gt
   rintro i S H6 hi ⟨q6,gt,z,rfl⟩;have g0:=q6.get g0 byO;have hp:=(eP hx).1 hi;have hms:=BD (V:=V) hx hp;have hVp:V (x+i*zz.n)=((((zz.W e x).getD i 0).val:Nat):Int):=by
    rw[<-hV];have:=mD (n:=zz.n) (W:=fun _=>[]) (k:=i) hx;simp only[this.1,this.2];rfl
   obtain⟨bw,ow,spw,cw2,xw,e6,gx,hat,hxl⟩:=ek (eL hvw0 hnew q6 byO) byO;rw[show(zz.W e x).length=cnt T zz.n x by omega]at e6;cases e6;have hati:=hat i byO;have hml:=BC zz.n V T x i;have hl6:=Heap.get_lt gt;rw[hVp]at hms;have hco:co (zz.W e x) i=(zz.W e x).getD i 0:=rfl;rw[hco]at hati;clear hat hVp hco;replace hp:((x:Nat):Int)+(i:Int)*(zz.n:Int)=((x+i*zz.n:Nat):Int)/\x+i*zz.n<T:=⟨by rw[ap₀,Int.natCast_mul],hp⟩;obtain⟨hp1,hp2⟩:=hp;generalize x+i*zz.n=p at *;generalize ((((zz.W e x).getD i 0).val:Nat):Int)=y at *;generalize mix zz.n V T x i=M at *;generalize mix zz.n V T x (i+1)=M' at *;refine aD ?_;refine⟨mF q6 _,?_,aJ ncM⟩;rw[aE byO]
  ·rintro S H6 ⟨q6,gt,z,rfl⟩
   rw[Fj hx rfl]at gt;have q7:=dP q1 (dP (eE (hx4.trans hx5)) q6);refine aD ?_;refine⟨q7,gt,fun y hy=>?_,aJ ncM⟩;by_cases e2:y=x
   ·rw[e2];exact hie
   ·exact hw y byO
 ·clear gt
  rintro S H3 ⟨q1,gt,hw,z,rfl⟩;rw[BB byO,<-hV]at gt;refine aD ?_;refine az ?_;exact⟨q1.ext hxd byO,hg byO gt hw⟩
end
open Go.Abs Go.RS
def FB(Q:bN):bN:=fun ex S' H'=>match ex with | .exit j=>if aU<=j then ∃(_:Nat),False else Q (.exit j) S' H'|ex=>Q ex S' H'
theorem Bo{lo:Nat}{b alts:Stm}{cf:CF}{R:Value->Heap->Prop}{S:List Value}{H:Heap}(h:wpS cp lo b (ef cf R) S H):wpS cp lo (.scope b alts) (ef cf R) S H:=by
 refine⟨fun _ _ _ _=>False,?_,fun _ _ _ _ h=>h.elim⟩;have e:FB (ef cf R)=ef cf R:=by
  funext ex S H;cases ex<;>simp[FB,ef]
 show wpS cp lo b (FB (ef cf R)) S H;rw[e];exact h
theorem Cb{V:Nat->Int}{T x i:Nat}(hx:x<n)(hi:¬ x+i*n<T):mix n V T x i=mix n V T (x+1) 0:=by
 unfold mix;refine List.map_congr_left fun j hj=>?_;have hj:=List.mem_range.1 hj;by_cases h:j%n<x\/(j%n=x/\j/n<i)
 ·rw[if_pos h,if_pos byO]
 ·rw[if_neg h,if_neg]
  rintro(h2|h2)
  ·by_cases h3:j%n=x
   ·apply hi
    have h4:i<=j/n:=by
     apply Nat.le_of_not_lt;intro h5;exact h (.inr ⟨h3,h5⟩)
    have h5:=Nat.mul_le_mul_left n h4;have:=Nat.div_add_mod j n;rw[h3]at this;rw[bb₀ i n];omega
   ·exact h (.inl byO)
  ·exact absurd h2.2 (Nat.not_lt_zero _)
def yd(s:Sz):Int:=IntKind.i64.wrap (s.d+s.k)
theorem wa{i:Nat}(hi:i<30):yd (dz i).sz=(((dz i).d+(dz i).c:Nat):Int):=by
 have hz:=tj hi;have:=hz.d2;have:=hz.c2;show IntKind.i64.wrap (((dz i).d:Int)+((dz i).c:Int))=_;rw[eV byO byO];omega
def qg(s:Sz)(l:List Int)(N:Nat)(H:Heap)(r:Value):Prop:=
 (kr s l (yd s)≠0->r=.tuple #[.slice none 0 0,.int .i64 0,.int .i64 (kr s l (yd s))]) /\
 (∀i,i<30->s=(dz i).sz->l.length=(dz i).d+(dz i).c->inF 256 l=true ->
  ((¬ ∀x,x<(dz i).n->OkX (dz i) l x)->r=.tuple #[.slice none 0 0,.int .i64 0,.int .i64 17]) /\
  ((∀x,x<(dz i).n->OkX (dz i) l x)->∃b,N<=b/\r=.tuple #[.slice (some ⟨b,0,none⟩) (dz i).d (dz i).d,.int .i64 (jG (nch (dz i) l) (dz i).n:Nat),.int .i64 0]/\H.get b=some (ak (ilv (dz i).n (fxX (dz i) l) (dz i).d))))
section
variable {lo:Nat}{H:Heap}{s:Sz}
open XYf
set_option maxHeartbeats 1000000 in
theorem Pn{l:List Int}(hl:SlI H v l)(hll:l.length<=1000000000)(hlo:lo<=H.length):Ev cp lo 16 [v,s.val] H (fun r H'=>Ext H H'/\qg s l H.length H' r):=by
 have hl0:=hl;obtain⟨ad,c,rfl⟩:=hl.len;refine stG rfl rfl ?_;unfold PE;simp only[kB,aC];refine aD ?_;refine Bo ?_;have hws:IntKind.i64.wrap (s.d+s.k)=yd s:=rfl;(try simp only[aC]);generalize hG:H++_=G at *;obtain⟨g0,hxG⟩:=de hG;clear hG;have hlG:=hxG.1;refine aV ?_;refine aA (Dy (s:=s) (n:=yd s) (hl.mono hxG) hll byO) ?_;rintro r H1 ⟨hx1,rfl⟩;clear hws;have g0:=hx1.get g0;have hx1:=hxG.trans hx1;have hl1:=hx1.1;refine aD ?_;by_cases he:kr s l (yd s)=0
 case neg=>
  have hg:qg s l H.length H1 (.tuple #[.slice none 0 0,.int .i64 0,.int .i64 (kr s l (yd s))]):=by
   refine⟨fun _=>rfl,fun i hi hs hle hin=>absurd (uz (mV.2 ⟨i,hi,hs⟩) ?_ hin) he⟩;rw[hs,hle,wa hi]
  generalize kr s l (yd s)=ee at *;refine ah ?_ ?_<;>intro h
  case refine_2=>exfalso;simp at h;exact he h
  clear h;refine aD ?_;refine az ?_;exact⟨hx1,hg⟩
 obtain⟨hs,hln,hin⟩:=E9 he;obtain⟨i0,hi0,hs0⟩:=mV.1 hs;rw[he];subst hs0;have hgB:(¬ ∀x,x<(dz i0).n->OkX (dz i0) l x)->∀{H':Heap},qg (dz i0).sz l H.length H' (.tuple #[.slice none 0 0,.int .i64 0,.int .i64 17]):=by
  intro hno H';refine⟨fun h=>absurd he h,fun i hi hs _ _=>?_⟩;rw[<-w5 hi0 hi hs];exact⟨fun _=>rfl,fun h=>absurd h hno⟩
 have hg:(∀x,x<(dz i0).n->OkX (dz i0) l x)->∀{H':Heap} {b:Nat},H.length<=b->Heap.get H' b=some (ak (ilv (dz i0).n (fxX (dz i0) l) (dz i0).d))->qg (dz i0).sz l H.length H' (.tuple #[.slice (some ⟨b,0,none⟩) (dz i0).d (dz i0).d,.int .i64 (jG (nch (dz i0) l) (dz i0).n:Nat),.int .i64 0]):=by
  intro hok H' b hb hh;refine⟨fun h=>absurd he h,fun i hi hs _ _=>?_⟩;rw[<-w5 hi0 hi hs];exact⟨fun h=>absurd hok h,fun _=>⟨b,hb,rfl,hh⟩⟩
 have hcode:=fun {H:Heap} {lo:Nat} (h:lo<=H.length)=>Le (H:=H) hi0 h;have hz:=tj hi0;rw[wa hi0]at hln;clear he hs;generalize dz i0=zz at *;have hlz:l.length=zz.d+zz.c:=by
  omega
 clear hln;have n1:=hz.n1;have n2:=hz.n2;have dn:=hz.dn;have d2:=hz.d2;have c2:=hz.c2;have k1:=hz.k1;have k2:=hz.k2;have hca:∀x,x<zz.n->(cnt l.length zz.n x<=cnt zz.d zz.n x+zz.ck/\cnt zz.d zz.n x+zz.ck<=cnt l.length zz.n x)/\0<cnt zz.d zz.n x/\cnt zz.d zz.n x+zz.ck<=250:=fun x hx=>by
  have:=uw hz hx;rw[<-hlz]at this;omega
 clear hz;replace hlz:l.length<=zz.d+zz.c/\zz.d+zz.c<=l.length:=byO;unfold Dz.sz Sz.val at *;simp only[Sz.cells]at *;refine ah ?_ ?_<;>intro h
 ·cases h
 clear h;(try simp only[aC]);refine aV ?_;refine aA (hcode byO) ?_;rintro r H2 ⟨hx2,rfl⟩;have g0:=hx2.get g0;have hq2:=Heap.get_lt g0;have hx2:=hx1.trans hx2;have hl2:=hx2.1;clear hcode;unfold cdV;refine aD ?_;generalize hG:H2++_=G1 at *;obtain⟨gc,hxG1⟩:=de hG;clear hG;have g0:=hxG1.get g0;have hxc:=hx2.trans hxG1;have hlc:=hxc.1;have hlt0:=Heap.get_lt gc;refine ah ?_ ?_<;>intro h
 ·cases h
 clear h;refine aD ?_;generalize hG:G1++_=G2 at *;obtain⟨gt,hxG2⟩:=de hG;clear hG;generalize hV:(fun j=>(((co (fxX zz l (j%zz.n)) (j/zz.n)).val:Nat):Int))=V at *;have gt:Heap.get G2 G1.length=some (ak (mix zz.n V zz.d 0 0)):=by
  rw[gt,Lo]
 have g0:=hxG2.get g0;have gc:=hxG2.get gc;have hxd:=hxc.trans hxG2;have hltt:=Heap.get_lt gt;have hsb:∀x,x<=zz.n->jG (nch zz l) x<=x*250:=by
  intro x
  induction x with
  | zero=>intro _;simp[jG]
  | succ x ih=>
   intro hx;have h1:=ih byO;have h2:=Fx zz l x;have h3:=hca x byO;rw[jG,Nat.succ_mul];omega
 refine aT (fun x S H'=>Keep G1.length G2 H'/\Heap.get H' G1.length=some (ak (mix zz.n V zz.d x 0))/\(∀y,y<x->OkX zz l y)/\∃(z:Nat->Value),S=[.slice ad l.length c,z 1,.pointer (some ⟨H.length,0,none⟩),z 3,z 4,z 5,z 6,.pointer (some ⟨H2.length,0,none⟩),z 8,.slice (some ⟨G1.length,0,none⟩) zz.d zz.d,.int .i64 (jG (nch zz l) x:Nat),z 11,z 12,z 13,z 14,z 15,z 16,z 17,z 18,z 19,z 20,z 21,.int .i64 (zz.n:Nat),.int .i64 (x:Nat),z 24,z 25,z 26,z 27,z 28,z 29,z 30,z 31]) zz.n ?_ ?_ ?_ ?_
 ·exact⟨eE (Ext.refl _),gt,byO,aJ rfl⟩
 ·rintro x S H' hx ⟨-,-,-,z,rfl⟩
  exact⟨_,bD,by simp⟩
 ·clear gt
  rintro x S H3 hx ⟨q1,gt,hw,z,rfl⟩;obtain⟨ca,cb,cc⟩:=hca x hx;have g0:=q1.get g0 byO;have gc:=q1.get gc byO;have hx3:=q1.ext hxd byO;have hl3:=hx3.1;have hsl:=hl0.mono hx3;have hq3:=q1.len;have hsx:=hsb x byO;have hsy:=hsb (x+1) byO;rw[jG]at hsy;refine aD ?_;refine aV ?_;refine aa (Dh (n:=zz.n) (x:=x) hsl hll hx byO (Nat.le_refl _)) ?_;rintro r H4 ⟨hx4,hr⟩;rw[<-KE hin]at hr;have hr:SlE H4 r (wdE zz l x):=B3 hr;have hwl:=mY zz l x;replace hwl:(wdE zz l x).length<=cnt l.length zz.n x/\cnt l.length zz.n x<=(wdE zz l x).length:=byO;have gt:=hx4.get gt;have g0:=hx4.get g0;have gc:=hx4.get gc;have hq4:=hx4.1;have hnl:=Fx zz l x;(try simp only[aC]);refine aV ?_;refine iU (first:=#[]) (cap:=#[]) (args:=[cdV (fB 301) zz.ck 1,r,.slice none 0 0]) (E3 (f:=F1) (g:=g1) (w:=wdE zz l x) (e:=[]) byO x9 (Dv byO byO) hr byO (.inl ⟨rfl,rfl⟩) (by simp)) ?_;rintro r2 H5 ⟨hx5,-,-,hbad,hgood⟩;have hin0:inR (wdE zz l x).length []:=fun _ h=>by simp at h
  replace hbad:=hbad hin0 byO (by show _<256;omega);replace hgood:=hgood hin0 byO (by show _<256;omega);have gt:=hx5.get gt;have g0:=hx5.get g0;have gc:=hx5.get gc;have hq5:=hx5.1;by_cases hok:OkX zz l x
  case neg=>
   rw[hbad hok];clear hbad hgood;unfold IA;have hxx:=(hx3.trans hx4).trans hx5;have hgB:=@hgB (fun h=>hok (h x hx));refine aD ?_;refine ah ?_ ?_<;>intro h
   case refine_2=>exfalso;simp at h
   clear h;refine aD ?_;refine az ?_;exact⟨hxx.trans (Ext.app _ _),hgB⟩
  obtain⟨vw,vc,rfl,hvw,hvc,hnew,-⟩:=hgood hok;clear hbad hgood;replace hvw:SlE H5 vw (fxX zz l x):=hvw;have hfl:=I2 zz l x;have hvw0:=hvw;obtain⟨aw,cw,ew⟩:=hvw.len;rw[hfl]at ew;subst ew;replace hfl:(fxX zz l x).length<=cnt l.length zz.n x/\cnt l.length zz.n x<=(fxX zz l x).length:=byO;obtain⟨ac,kc,ec⟩:=hvc.len;replace ec:vc=.slice ac (nch zz l x) kc:=ec;subst ec;clear hvc hvw hr;refine aD ?_;generalize hG:H5++_=H6 at *;obtain⟨gr,hxr⟩:=de hG;clear hG;have hvw0:=hvw0.mono hxr;have gt:=hxr.get gt;have g0:=hxr.get g0;have gc:=hxr.get gc;have hq6:=hxr.1;refine ah ?_ ?_<;>intro h
  ·cases h
  clear h;refine aD ?_;clear gr;refine aT (fun i S H'=>Keep G1.length H6 H'/\Heap.get H' G1.length=some (ak (mix zz.n V zz.d x i))/\i<=cnt zz.d zz.n x/\∃(z:Nat->Value),S=[.slice ad l.length c,z 1,.pointer (some ⟨H.length,0,none⟩),z 3,z 4,z 5,z 6,.pointer (some ⟨H2.length,0,none⟩),z 8,.slice (some ⟨G1.length,0,none⟩) zz.d zz.d,.int .i64 (jG (nch zz l) x+nch zz l x:Nat),.int .i64 (x:Nat),z 12,z 13,z 14,z 15,z 16,z 17,z 18,z 19,z 20,z 21,.int .i64 (zz.n:Nat),.int .i64 (x:Nat),z 24,z 25,z 26,z 27,z 28,.slice aw (cnt l.length zz.n x) cw,.int .i64 (cnt l.length zz.n x:Nat),.int .i64 (i:Nat)]) (cnt l.length zz.n x) ?_ ?_ ?_ ?_
  ·exact⟨eE (Ext.refl _),gt,Nat.zero_le _,aJ ncM⟩
  ·rintro i S H' hi ⟨-,-,-,z,rfl⟩
   exact⟨_,bD,by simp⟩
  ·clear gt
   rintro i S H7 hi ⟨q6,gt,hic,z,rfl⟩;have g0:=q6.get g0 byO;have hq7:=q6.len;obtain⟨bw,ow,spw,cw2,xw,e6,gx,hat,hxl⟩:=ek (eL hvw0 hnew q6 byO) byO;rw[show(fxX zz l x).length=cnt l.length zz.n x by omega]at e6;cases e6;have hati:=hat i byO;have hml:=BC zz.n V zz.d x i;have hl6:=Heap.get_lt gt;have hp1:((x:Nat):Int)+(i:Int)*(zz.n:Int)=((x+i*zz.n:Nat):Int):=by rw[ap₀,Int.natCast_mul]
   have hpb:x+i*zz.n<3000:=by
    have h1:=(eP hx).1 hi;omega
   clear hat;by_cases hi2:i<cnt zz.d zz.n x
   ·have hp:=(eP hx).1 hi2
    have hms:=BD (V:=V) hx hp;have hVp:V (x+i*zz.n)=((((fxX zz l x).getD i 0).val:Nat):Int):=by
     rw[<-hV];have:=mD (n:=zz.n) (W:=fun _=>[]) (k:=i) hx;simp only[this.1,this.2];rfl
    rw[hVp]at hms;have hco:co (fxX zz l x) i=(fxX zz l x).getD i 0:=rfl;rw[hco]at hati;clear hVp hco;generalize x+i*zz.n=p at *;generalize ((((fxX zz l x).getD i 0).val:Nat):Int)=y at *;generalize mix zz.n V zz.d x i=M at *;generalize mix zz.n V zz.d x (i+1)=M' at *;refine aD ?_;refine ah ?_ ?_<;>intro h
    ·exfalso;simp at h;omega
    clear h;refine aD ?_;refine⟨mF q6 _,?_,byO,aJ ncM⟩;rw[aE byO]
   ·have hp:¬ x+i*zz.n<zz.d:=fun h=>hi2 ((eP hx).2 h)
    rw[Cb hx hp]at gt;have q7:=dP q1 (dP (eE ((hx4.trans hx5).trans hxr)) q6);clear hml;generalize x+i*zz.n=p at *;refine aD ?_;refine ah ?_ ?_<;>intro h
    case refine_2=>exfalso;simp at h;omega
    clear h;refine aD ?_;(repeat (first|rw[if_neg (by decide)]|simp only[Gg,Az,Fi]|rw[lA]));refine aD ?_;refine⟨q7,gt,fun y hy=>?_,aJ ncM⟩;by_cases e2:y=x
    ·rw[e2];exact hok
    ·exact hw y byO
  ·rintro S H7 ⟨-,-,hic,-⟩
   omega
 ·clear gt
  rintro S H3 ⟨q1,gt,hw,z,rfl⟩;rw[BB byO,<-hV]at gt;refine aD ?_;refine az ?_;exact⟨q1.ext hxd byO,hg hw byO gt⟩
end
theorem Aa(i:Nat):erI [] i=false:=rfl
theorem Jp(n:Nat):sC (erI []) n=0:=by
 unfold sC sel;rw[List.filter_eq_nil_iff.2 (fun i _=>by rw[Aa];decide)];rfl
theorem SJ:g1≠0:=gz x9
noncomputable def tE(w c:List (El F1)):Nat:=(sel (fun i=>decide (co w i≠co c i)) w.length).length
theorem Po{z:Dz}{wl:List Int}{x:Nat}{W:List (El F1)}(hlen:cnt wl.length z.n x<=255)(hW:W.length=cnt wl.length z.n x)(hcw:C2 g1 z.ck 1 W)(hc:2*tE (wdE z wl x) W<=z.ck):OkX z wl x/\fxX z wl x=W:=by
 refine zl SJ (df x9) (by rw[mY];exact hlen) (by rw[mY,hW]) hcw ?_;rw[Jp];have:(sel (fun i=>!erI [] i&&decide (co (wdE z wl x) i≠co W i)) (wdE z wl x).length)=sel (fun i=>decide (co (wdE z wl x) i≠co W i)) (wdE z wl x).length:=gD fun i _=>by rw[Aa];rfl
 rw[this];exact hc
theorem zk(z:Dz)(wl:List Int)(x:Nat):nch z wl x=tE (wdE z wl x) (fxX z wl x):=by
 unfold nch tE;congr 1;exact gD fun i _=>decide_eq_decide.2 ⟨Ne.symm,Ne.symm⟩
theorem FW{r:Nat}{d w:List (El F1)}(h:IsEnc g1 r 1 d w):C2 g1 r 1 w:=fun k hk=>h.cw k hk
theorem BZ{φ ψ:Nat->Bool}{k:Nat}(hk:ψ k=true)(hk0:φ k=false)(h:∀i,i≠k->ψ i=φ i):∀N,(sel ψ N).length=(sel φ N).length+if k<N then 1 else 0
 | 0=>rfl
 | N+1=>by
  have ih:=BZ hk hk0 h N;rw[bZ,bZ,as₀,as₀,ih];by_cases e:N=k
  ·subst e
   rw[hk,hk0];simp
  ·rw[h N e]
   have e3:k<N+1↔k<N:=byO;simp only[e3];omega
theorem pF{α:Type}{l:List α}{i j:Nat}{v d:α}(h:i<l.length):(l.set i v).getD j d=if j=i then v else l.getD j d:=by
 rw[au₀,List.getElem?_set];by_cases e:j=i
 ·rw[if_pos e.symm,if_pos h,if_pos e];rfl
 ·rw[if_neg (Ne.symm e),if_neg e,<-au₀]
theorem Ew{α:Type}{n i:Nat}{a:α}:(List.replicate n a).getD i a=a:=by
 rw[au₀,List.getElem?_replicate];split<;>rfl
def dfX(n:Nat)(wl out:List Int)(x:Nat):Nat:=(sel (fun k=>decide (out.getD (x+k*n) 0≠wl.getD (x+k*n) 0)) (cnt wl.length n x)).length
def dfA(wl out:List Int):Nat:=(sel (fun j=>decide (out.getD j 0≠wl.getD j 0)) wl.length).length
theorem v9(j n:Nat):j%n+j/n*n=j:=by rw[bb₀];have:=Nat.div_add_mod j n;omega
theorem zJ(hn:0<n)(wl out:List Int):jG (dfX n wl out) n=dfA wl out:=by
 refine(sg hn (fun x k=>decide (out.getD (x+k*n) 0≠wl.getD (x+k*n) 0)) wl.length).trans ?_;unfold dfA;exact congrArg List.length (gD fun j _=>by simp only[v9])
theorem IF(hn:0<n){wl out:List Int}{j:Nat}{v:Int}(hj:j<wl.length)(hl:out.length=wl.length)(h0:out.getD j 0=wl.getD j 0)(hv:v≠wl.getD j 0){x:Nat}(hx:x<n):dfX n wl (out.set j v) x=if x=j%n then dfX n wl out x+1 else dfX n wl out x:=by
 have hg:∀i,(out.set j v).getD i 0=if i=j then v else out.getD i 0:=fun i=>pF byO
 unfold dfX;by_cases e:x=j%n
 ·subst e
  rw[if_pos rfl,BZ (k:=j/n) (φ:=fun k=>decide (out.getD (j%n+k*n) 0≠wl.getD (j%n+k*n) 0)) (ψ:=fun k=>decide ((out.set j v).getD (j%n+k*n) 0≠wl.getD (j%n+k*n) 0)) ?_ ?_ ?_,if_pos (kE hn hj)]
  ·simp only[v9,hg,if_pos rfl]
   exact decide_eq_true hv
  ·simp only[v9]
   exact decide_eq_false (fun h=>h h0)
  ·intro i hi
   simp only[hg];rw[if_neg];intro h;have:=(mD (n:=n) (W:=fun _=>[]) (k:=i) hx).2;rw[h]at this;exact hi this.symm
 ·rw[if_neg e]
  exact congrArg List.length (gD fun i _=>by
   simp only[hg];rw[if_neg];intro h;have:=(mD (n:=n) (W:=fun _=>[]) (k:=i) hx).1;rw[h]at this;exact e this.symm)
theorem xN{wl:List Int}{x:Nat}:dfX n wl wl x=0:=by
 unfold dfX sel;rw[List.filter_eq_nil_iff.2 (fun i _=>by simp)];rfl
theorem E6{wl:List Int}:dfA wl wl=0:=by
 unfold dfA sel;rw[List.filter_eq_nil_iff.2 (fun i _=>by simp)];rfl
structure SpI (n ck:Nat)(wl out us:List Int):Prop where
 lo:out.length=wl.length
 lu:us.length=n
 by':∀i,i<wl.length->0<=out.getD i 0/\out.getD i 0<=255
 us':∀x,x<n->us.getD x 0=((dfX n wl out x:Nat):Int)/\2*dfX n wl out x<=ck
theorem SpI.start{n ck:Nat}{wl:List Int}(hb:∀i,i<wl.length->0<=wl.getD i 0/\wl.getD i 0<=255):SpI n ck wl wl (List.replicate n 0):=
 ⟨rfl,by simp,hb,fun x hx=>by rw[Ew,xN];exact⟨rfl,Nat.zero_le _⟩⟩
theorem SpI.step{n ck:Nat}(hn:0<n){wl out us:List Int}{j:Nat}{v:Int}(h:SpI n ck wl out us)(hj:j<wl.length)(h0:out.getD j 0=wl.getD j 0)(hv:v≠wl.getD j 0)(hb:0<=v/\v<=255)(hc:2*us.getD (j%n) 0+2<=(ck:Int)) :
  SpI n ck wl (out.set j v) (us.set (j%n) (us.getD (j%n) 0+1))/\dfA wl (out.set j v)=dfA wl out+1:=by
 obtain⟨h1,h2,h3,h4⟩:=h;have hm:=Nat.mod_lt j hn;have hd:=fun x (hx:x<n)=>IF hn hj h1 h0 hv hx;refine⟨⟨by simpa using h1,by simpa using h2,fun i hi=>?_,fun x hx=>?_⟩,?_⟩
 ·rw[pF byO]
  split
  ·exact hb
  ·exact h3 i hi
 ·obtain⟨u1,u2⟩:=h4 x hx
  rw[pF byO,hd x hx];by_cases e:x=j%n
  ·subst e
   rw[if_pos rfl,if_pos rfl];omega
  ·rw[if_neg e,if_neg e];exact⟨u1,u2⟩
 ·rw[<-zJ hn,<-zJ hn,pX hd,if_pos hm]
theorem Pw{m:Int}{w:El F1}(h:0<=m/\m<=255):eB 301 m.toNat=w↔m=((w.val:Nat):Int):=by
 have hv:(eB 301 m.toNat).val=m.toNat%256:=rfl;constructor
 ·rintro rfl
  rw[hv];omega
 ·intro e
  exact El.ext (by rw[hv];omega)
theorem ub{z:Dz}(hn:0<z.n){V:Nat->List (El F1)}{N:Nat}{out:List Int}(hlo:out.length=N)(hb:∀i,i<N->0<=out.getD i 0/\out.getD i 0<=255){x:Nat}(hx:x<z.n):tE (wdE z out x) (V x)=dfX z.n (ilv z.n V N) out x:=by
 unfold tE dfX;rw[mY,hlo,mE];refine congrArg List.length (gD fun k hk=>?_);have hk:=(eP hx).1 hk;have hm:=mD (n:=z.n) (W:=V) (k:=k) hx;have h1:=M7 (z:=z) (wl:=out) hn (j:=x+k*z.n) byO;have h2:=FN (n:=z.n) (W:=V) hk;rw[hm.1,hm.2]at h1 h2;rw[h1,h2];exact decide_eq_decide.2 (not_congr (Pw (hb _ hk)))
theorem DH{z:Dz}(hz:z.Ok){e:List (El F1)}{V:Nat->List (El F1)}(he:e.length=z.d)(hV:∀x,x<z.n->IsEnc g1 z.ck 1 (ft e 0 z.n x) (V x)){out:List Int}(hlo:out.length=z.d+z.c)(hb:∀i,i<z.d+z.c->0<=out.getD i 0/\out.getD i 0<=255)(hd:∀x,x<z.n->2*dfX z.n (ilv z.n V (z.d+z.c)) out x<=z.ck) :
  (∀x,x<z.n->OkX z out x)/\jG (nch z out) z.n=dfA (ilv z.n V (z.d+z.c)) out/\ilv z.n (fxX z out) z.d=eH e:=by
 have hn:0<z.n:=hz.n1;have key:∀x,x<z.n->OkX z out x/\fxX z out x=V x:=fun x hx=>by
  have ha:=uw hz hx;have hl:=(hV x hx).len;rw[jq,he]at hl;exact Po (by rw[hlo];omega) (by rw[hlo];omega) (FW (hV x hx)) (by rw[ub hn hlo hb hx];exact hd x hx)
 refine⟨fun x hx=>(key x hx).1,?_,?_⟩
 ·rw[<-zJ hn]
  exact kb fun x hx=>by rw[zk,(key x hx).2,ub hn hlo hb hx]
 ·rw[CX hn fun x hx=>(key x hx).2]
  exact FO hz he hV
end Go.Proofs.YtmnlgdpdgjbfgaaGreat
