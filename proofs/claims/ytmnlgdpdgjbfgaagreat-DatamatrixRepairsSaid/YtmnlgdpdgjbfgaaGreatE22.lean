/- Lemmas. -/
import Derived.Test.YtmnlgdpdgjbfgaaGreatE11
import Derived.Test.YtmnlgdpdgjbfgaaGreatE18
import Derived.Test.YtmnlgdpdgjbfgaaGreatE21
import Derived.KernelRfl
set_option linter.unusedVariables false
set_option linter.unusedSimpArgs false
set_option linter.unusedSectionVars false
namespace Go.Proofs.YtmnlgdpdgjbfgaaGreat
open Go.Abs
set_option maxRecDepth 1000000
def wds(l:List Nat):List FV:=l.map fun n=>.i .i64 n
def byt(l:List Nat):List FV:=l.map fun n=>.i .u8 n
def Rh(n:Nat):List Bool:=(List.range 100).map n.testBit
def M3(n:Nat):List FV:=(Rh n).map .b
def wC(n:Nat):List Value:=(Rh n).map .bool
def szV:Value:=.agg #[.int .i64 10,.int .i64 10,.int .i64 8,.int .i64 8,.int .i64 3,.int .i64 5,.int .i64 1]
def mx1:Nat:=1266637047038645181591131475285
def mx2:Nat:=1266422016794345302889500077397
theorem Si:nC cp 1000000 38 [.s 0 0 6 6 none] (byt [49,50,51,52,53,54]) (mb (.tuple #[.slice (some ⟨3688,0,none⟩) 3 3,.int .i64 0]) 3688 (toL (wds [142,164,186])))=true:=by kernel_rfl
theorem Nu:tI cp 1000000 0 38 [.o (.slice none 0 0)] (.mk 0 .e) (mb (.tuple #[.slice (some ⟨348,0,none⟩) 0 0,.int .i64 0]) 348 [])=true:=by kernel_rfl
theorem VE:tI cp 1000000 0 39 [.i .i64 3,.b true] (.mk 0 .e) (FU (.tuple #[szV,.int .i64 0]))=true:=by kernel_rfl
theorem On:tI cp 1000000 0 39 [.i .i64 1,.b false] (.mk 0 .e) (FU (.tuple #[szV,.int .i64 0]))=true:=by kernel_rfl
theorem VD:nC cp 1000000 40 [.s 0 0 3 3 none,.i .i64 3] (wds [142,164,186]) (mb (.tuple #[.slice (some ⟨1,0,none⟩) 3 3,.int .i64 0]) 1 (toL (wds [142,164,186])))=true:=by kernel_rfl
theorem Nj:nC cp 1000000 40 [.s 0 0 0 0 none,.i .i64 3] [] (mb (.tuple #[.slice (some ⟨1,0,none⟩) 3 3,.int .i64 0]) 1 (toL (wds [129,175,70])))=true:=by kernel_rfl
theorem UM:nC cp 1000000 41 [.s 0 0 8 8 none,.o szV] (wds [142,164,186,114,25,5,88,102]) (mb (.tuple #[.agg #[.int .i64 10,.int .i64 10,.slice (some ⟨113,0,none⟩) 100 100],.int .i64 0]) 113 (wC mx1))=true:=by kernel_rfl
theorem N9:nC cp 1000000 41 [.s 0 0 8 8 none,.o szV] (wds [129,175,70,33,1,170,139,55]) (mb (.tuple #[.agg #[.int .i64 10,.int .i64 10,.slice (some ⟨113,0,none⟩) 100 100],.int .i64 0]) 113 (wC mx2))=true:=by kernel_rfl
theorem Ue:nC cp 1000000 45 [.o (.agg #[.int .i64 10,.int .i64 10,.slice (some ⟨0,0,none⟩) 100 100])] (M3 mx1) (mb (.tuple #[.slice (some ⟨114,0,none⟩) 8 8,szV,.int .i64 0]) 114 (toL (wds [142,164,186,114,25,5,88,102])))=true:=by kernel_rfl
theorem SH:nC cp 1000000 46 [.s 0 0 3 3 none] (wds [142,164,186]) (mb (.tuple #[.slice (some ⟨7,0,some 1⟩) 6 6,.int .i64 0]) 7 (toL (byt [49,50,51,52,53,54])))=true:=by kernel_rfl
open Go.Abs Go.RS
def szT:List (List Nat):=[[10,10,8,8,3,5,1],[12,12,10,10,5,7,1],[14,14,12,12,8,10,1],[16,16,14,14,12,12,1],[18,18,16,16,18,14,1],[20,20,18,18,22,18,1],[22,22,20,20,30,20,1],[24,24,22,22,36,24,1],[26,26,24,24,44,28,1],[32,32,14,14,62,36,1],[36,36,16,16,86,42,1],[40,40,18,18,114,48,1],[44,44,20,20,144,56,1],[48,48,22,22,174,68,1],[52,52,24,24,204,84,2],[64,64,14,14,280,112,2],[72,72,16,16,368,144,4],[80,80,18,18,456,192,4],[88,88,20,20,576,224,4],[96,96,22,22,696,272,4],[104,104,24,24,816,336,6],[120,120,18,18,1050,408,6],[132,132,20,20,1304,496,8],[144,144,22,22,1558,620,10],[8,18,6,16,5,7,1],[8,32,6,14,10,11,1],[12,26,10,24,16,14,1],[12,36,10,16,22,18,1],[16,36,14,16,32,24,1],[16,48,14,22,49,28,1]]
structure Dz where
 a:Nat
 b:Nat
 ra:Nat
 rb:Nat
 d:Nat
 c:Nat
 n:Nat
def Tl(r:List Nat):Dz:=⟨r.getD 0 0,r.getD 1 0,r.getD 2 0,r.getD 3 0,r.getD 4 0,r.getD 5 0,r.getD 6 0⟩
def dz(i:Nat):Dz:=Tl (szT.getD i [])
def Dz.ck(z:Dz):Nat:=z.c/z.n
def Dz.cells(z:Dz):List Int:=[(z.a:Int),(z.b:Int),(z.ra:Int),(z.rb:Int),(z.d:Int),(z.c:Int),(z.n:Int)]
structure Dz.Ok (z:Dz):Prop where
 n1:1≤z.n
 n2:z.n≤10
 dn:z.n≤z.d
 d2:z.d≤1558
 c2:z.c≤620
 cn:z.c=z.n*z.ck
 k1:1≤z.ck
 k2:z.ck≤68
 all:z.d+z.c≤250*z.n
theorem pX{i:Nat}(hi:i<30):(dz i).Ok:=by
 have h:∀i,i<30→(1≤(dz i).n∧(dz i).n≤10∧(dz i).n≤(dz i).d∧(dz i).d≤1558∧(dz i).c≤620∧(dz i).c=(dz i).n*(dz i).ck∧1≤(dz i).ck∧(dz i).ck≤68∧(dz i).d+(dz i).c≤250*(dz i).n):=by decide +kernel
 obtain⟨a,b,c,d,e,f,g,h,i⟩:=h i hi
 exact⟨a,b,c,d,e,f,g,h,i⟩
def cnt(N n x:Nat):Nat:=(N+n-1-x)/n
theorem dd{N n x k:Nat}(hx:x<n):k<cnt N n x↔x+k*n<N:=by
 unfold cnt
 rw[Nat.lt_iff_add_one_le,Nat.le_div_iff_mul_le (by omega),Nat.add_mul,Nat.one_mul]
 omega
theorem Ic{N n x k:Nat}(hx:x<n):cnt (N+n*k) n x=cnt N n x+k:=by
 unfold cnt
 rw[show N+n*k+n-1-x=N+n-1-x+n*k by omega,Nat.add_mul_div_left _ _ (by omega)]
theorem vM{N n x:Nat}(hx:x<n):cnt (N+1) n x=if N%n=x then cnt N n x+1 else cnt N n x:=by
 have h:∀k,k<cnt (N+1) n x↔k<(if N%n=x then cnt N n x+1 else cnt N n x):=by
  intro k
  rw[dd hx]
  by_cases e:N%n=x
  ·have hd:=Nat.div_add_mod N n
   have h1:cnt N n x=N/n:=by
    apply Nat.le_antisymm
    ·apply Nat.le_of_not_lt;intro h
     rw[dd hx,Nat.mul_comm]at h;omega
    ·apply Nat.le_of_not_lt;intro h
     obtain⟨m,hm⟩:∃m,N/n=m+1:=⟨N/n-1,by omega⟩
     have:¬ m<cnt N n x:=by omega
     rw[dd hx,Nat.mul_comm]at this
     rw[hm,Nat.mul_add]at hd;omega
   rw[if_pos e,h1,Nat.lt_succ_iff]
   constructor
   ·intro h
    apply Nat.le_of_not_lt;intro hc
    have hc:N/n+1≤k:=by omega
    have:=Nat.mul_le_mul_left n hc
    rw[Nat.mul_add,Nat.mul_comm n k]at this;omega
   ·intro h
    have h:k≤N/n:=by omega
    have:=Nat.mul_le_mul_left n h
    rw[Nat.mul_comm n k]at this;omega
  ·rw[if_neg e,dd hx]
   constructor
   ·intro h
    apply Nat.lt_of_le_of_ne (by omega)
    rintro rfl
    apply e
    rw[Nat.add_mul_mod_self_right,Nat.mod_eq_of_lt hx]
   ·omega
 apply Nat.le_antisymm
 ·apply Nat.le_of_not_lt;intro hc
  have:=(h _).1 hc;omega
 ·apply Nat.le_of_not_lt;intro hc
  have:=(h _).2 hc;omega
theorem D3{N n:Nat}(hn:0<n):cnt N n (N%n)=N/n:=by
 have hx:=Nat.mod_lt N hn
 have h:=Nat.div_add_mod N n
 apply Nat.le_antisymm
 ·apply Nat.le_of_not_lt;intro hc
  rw[dd hx,Nat.mul_comm]at hc;omega
 ·apply Nat.le_of_not_lt;intro hc
  obtain⟨m,hm⟩:∃m,N/n=m+1:=⟨N/n-1,by omega⟩
  have:¬ m<cnt N n (N%n):=by omega
  rw[dd hx,Nat.mul_comm]at this
  rw[hm,Nat.mul_add]at h;omega
theorem mK{N n j:Nat}(hn:0<n)(hj:j<N):j/n<cnt N n (j%n):=by
 rw[dd (Nat.mod_lt j hn),Nat.mul_comm]
 have:=Nat.div_add_mod j n
 omega
def ek(F:Nat→Nat):Nat→Nat
 | 0=>0
 | n+1=>ek F n+F n
theorem lz{F G:Nat→Nat}:∀{n:Nat},(∀x,x<n→F x=G x)→ek F n=ek G n
 | 0,_=>rfl
 | n+1,h=>by rw[ek,ek,lz fun x hx=>h x (by omega),h n (by omega)]
theorem nm{F G:Nat→Nat}{x0:Nat}:∀{n:Nat},(∀x,x<n→G x=if x=x0 then F x+1 else F x)→ek G n=ek F n+if x0<n then 1 else 0
 | 0,_=>rfl
 | n+1,h=>by
  rw[ek,ek,nm (F:=F) (x0:=x0) (n:=n) fun x hx=>h x (by omega),h n (by omega)]
  by_cases e:n=x0
  ·subst e;simp;omega
  ·rw[if_neg e]
   by_cases e2:x0<n
   ·rw[if_pos e2,if_pos (by omega)];omega
   ·rw[if_neg e2,if_neg (by omega)];omega
theorem rf:∀n,ek (fun _=>0) n=0
 | 0=>rfl
 | n+1=>by rw[ek,rf n]
theorem qP{n:Nat}(hn:0<n)(φ:Nat→Nat→Bool):∀N,ek (fun x=>(sel (φ x) (cnt N n x)).length) n=(sel (fun j=>φ (j%n) (j/n)) N).length
 | 0=>by
  have:∀x,x<n→cnt 0 n x=0:=fun x hx=>by unfold cnt;exact Nat.div_eq_of_lt (by omega)
  rw[lz (G:=fun _=>0) fun x hx=>by rw[this x hx];rfl,rf];rfl
 | N+1=>by
  have ih:=qP hn φ N
  have hx:=Nat.mod_lt N hn
  rw[bK,List.length_append,←ih]
  by_cases h:φ (N%n) (N/n)=true
  ·rw[if_pos h]
   rw[nm (F:=fun x=>(sel (φ x) (cnt N n x)).length) (x0:=N%n) fun x hx2=>?_,if_pos hx]
   ·rfl
   ·rw[vM hx2]
    by_cases e:x=N%n
    ·subst e
     rw[if_pos rfl,if_pos rfl,bK,D3 hn,if_pos h];simp
    ·rw[if_neg e,if_neg (fun h=>e h.symm)]
  ·rw[if_neg h,List.length_nil,Nat.add_zero]
   refine lz fun x hx2=>?_
   rw[vM hx2]
   by_cases e:N%n=x
   ·subst e
    rw[if_pos rfl,bK,D3 hn,if_neg h,List.append_nil]
   ·rw[if_neg e]
def fK{α:Type}(l:List α)(d:α)(n x:Nat):List α:=(List.range (cnt l.length n x)).map fun k=>l.getD (x+k*n) d
theorem jP{α:Type}(l:List α)(d:α)(n x:Nat):(fK l d n x).length=cnt l.length n x:=by simp[fK]
abbrev F1:FD:=fB 301
abbrev g1:El F1:=eB 301 2
theorem yw:OkF 2 256 301 (fB 301):=⟨OkC.ok,rfl,rfl,rfl⟩
theorem sR:Gn (OkC.ok (f:=fB 301)) (eB 301 2):=by
 refine⟨by decide,HQ bf301 KQ,fun x h1 h2 h=>?_⟩
 have h3:x.val=1:=by
  have:x.val<2:=h2
  omega
 have:x=eB 301 1:=El.ext h3
 subst this
 exact wX h
theorem xC{c:Nat}(h1:1≤c)(h2:c≤254):CdOK F1 c 1:=⟨h1,h2,by decide⟩
theorem C1(e:List (El F1))(n x:Nat):fK (gT e) 0 n x=gT (fK e 0 n x):=by
 unfold fK gT
 rw[List.length_map,List.map_map]
 refine List.map_congr_left fun k _=>?_
 simp only[Function.comp,List.getD_eq_getElem?_getD,List.getElem?_map]
 cases e[x+k*n]?<;>rfl
noncomputable def Ii(r:Nat)(d:List (El F1)):List (El F1):=@Classical.epsilon _ ⟨[]⟩ fun w=>IsEnc g1 r 1 d w
theorem zm{r:Nat}{d w:List (El F1)}(hc:CdOK F1 r 1)(h:IsEnc g1 r 1 d w):w=Ii r d:=
 Fx sR hc h (@Classical.epsilon_spec _ (fun w=>IsEnc g1 r 1 d w) ⟨w,h⟩)
noncomputable def Dz.W(z:Dz)(e:List (El F1))(x:Nat):List (El F1):=Ii z.ck (fK e 0 z.n x)
noncomputable def ilv(n:Nat)(W:Nat→List (El F1))(N:Nat):List Int:=(List.range N).map fun j=>(((co (W (j%n)) (j/n)).val:Nat):Int)
theorem lP(n:Nat)(W:Nat→List (El F1))(N:Nat):(ilv n W N).length=N:=by simp[ilv]
theorem K0{n:Nat}{W:Nat→List (El F1)}{N j:Nat}(h:j<N):(ilv n W N).getD j 0=(((co (W (j%n)) (j/n)).val:Nat):Int):=by
 unfold ilv
 rw[List.getD_eq_getElem?_getD,List.getElem?_map,List.getElem?_range h];rfl
theorem jm{n:Nat}{W:Nat→List (El F1)}{x k:Nat}(hx:x<n):(x+k*n)%n=x∧(x+k*n)/n=k:=by
 refine⟨?_,?_⟩
 ·rw[Nat.add_mul_mod_self_right,Nat.mod_eq_of_lt hx]
 ·rw[Nat.add_mul_div_right _ _ (by omega),Nat.div_eq_of_lt hx,Nat.zero_add]
def wdE(z:Dz)(wl:List Int)(x:Nat):List (El F1):=(fK wl 0 z.n x).map fun v=>eB 301 v.toNat
theorem ky(z:Dz)(wl:List Int)(x:Nat):(wdE z wl x).length=cnt wl.length z.n x:=by unfold wdE;rw[List.length_map,jP]
theorem Lt{q:Int}{l:List Int}(h:inF q l=true){v:Int}(hv:v ∈ l):0≤v∧v<q:=by
 have:=List.all_eq_true.1 h v hv
 simpa using this
theorem zk{z:Dz}{wl:List Int}(h:inF 256 wl=true)(x:Nat):gT (wdE z wl x)=fK wl 0 z.n x:=by
 unfold gT wdE
 rw[List.map_map]
 refine(List.map_congr_left fun v hv=>?_).trans (List.map_id _)
 have hb:0≤v∧v<256:=by
  unfold fK at hv
  obtain⟨k,_,rfl⟩:=List.mem_map.1 hv
  rw[List.getD_eq_getElem?_getD]
  rcases hq:wl[x+k*z.n]? with _|u
  ·exact⟨by decide,by decide⟩
  ·exact Lt h (List.mem_of_getElem? hq)
 show(((v.toNat%256:Nat)):Int)=v
 omega
def OkX(z:Dz)(wl:List Int)(x:Nat):Prop:=DecOK g1 z.ck 1 (wdE z wl x) (erI [])
noncomputable def fxX(z:Dz)(wl:List Int)(x:Nat):List (El F1):=fD g1 z.ck 1 (wdE z wl x) (erI [])
theorem AO(z:Dz)(wl:List Int)(x:Nat):(fxX z wl x).length=cnt wl.length z.n x:=by unfold fxX;rw[fm,ky]
noncomputable def nch(z:Dz)(wl:List Int)(x:Nat):Nat:=(sel (fun i=>decide (co (fxX z wl x) i≠co (wdE z wl x) i)) (wdE z wl x).length).length
theorem tu(z:Dz)(wl:List Int)(x:Nat):nch z wl x≤cnt wl.length z.n x:=by
 have:=List.length_filter_le (fun i=>decide (co (fxX z wl x) i≠co (wdE z wl x) i)) (List.range (wdE z wl x).length)
 rw[List.length_range]at this
 exact Nat.le_trans this (Nat.le_of_eq (ky z wl x))
set_option maxRecDepth 20000
structure Sz where
 r:Int
 c:Int
 rr:Int
 rc:Int
 d:Int
 k:Int
 b:Int
 deriving DecidableEq
def Sz.cells(s:Sz):List Value:=[.int .i64 s.r,.int .i64 s.c,.int .i64 s.rr,.int .i64 s.rc,.int .i64 s.d,.int .i64 s.k,.int .i64 s.b]
def Sz.zero:Sz:=⟨0,0,0,0,0,0,0⟩
def Sz.val(s:Sz):Value:=.agg #[.int .i64 s.r,.int .i64 s.c,.int .i64 s.rr,.int .i64 s.rc,.int .i64 s.d,.int .i64 s.k,.int .i64 s.b]
def Dz.sz(z:Dz):Sz:=⟨z.a,z.b,z.ra,z.rb,z.d,z.c,z.n⟩
def szs:List Sz:=(List.range 30).map fun i=>(dz i).sz
theorem ie{s:Sz}:s ∈ szs↔∃i,i<30∧s=(dz i).sz:=by
 unfold szs
 rw[List.mem_map]
 constructor
 ·rintro⟨i,hi,rfl⟩;exact⟨i,List.mem_range.1 hi,rfl⟩
 ·rintro⟨i,hi,rfl⟩;exact⟨i,List.mem_range.2 hi,rfl⟩
def szCells:List Value:=szs.flatMap Sz.cells
set_option maxRecDepth 1000000 in
theorem rSz:tI cp 1000000 0 55 [] (.mk 0 .e) (mb (.slice (some ⟨1,0,none⟩) 30 30) 1 szCells)=true:=by kernel_rfl
set_option maxRecDepth 1000000 in
theorem UT:tI cp 1000000 0 26 [] (.mk 0 .e) (mb (.slice (some ⟨120,0,some 7⟩) 30 30) 120 szCells)=true:=by kernel_rfl
theorem AV:szCells.all bO=true:=by kernel_rfl
theorem Ll{lo:Nat}{H:Heap}(hlo:lo≤H.length):Ev cp lo 55 [] H (fun v H'=>∃j,H.length≤j∧v=.slice (some ⟨j,0,none⟩) 30 30∧H'.get j=some szCells∧Ext H H'):=
 (qT eb rSz rfl rfl AV hlo).mono fun v H' h=>⟨H.length+1,by omega,by rw[h.2.1];show Value.slice (some ⟨(mv0 H.length).f 1,0,none⟩) 30 30=_;rw[AI],h.2.2,h.1⟩
theorem MK{lo:Nat}{H:Heap}(hlo:lo≤H.length):Ev cp lo 26 [] H (fun v H'=>∃j,H.length≤j∧v=.slice (some ⟨j,0,some 7⟩) 30 30∧H'.get j=some szCells∧Ext H H'):=
 (qT eb UT rfl rfl AV hlo).mono fun v H' h=>⟨H.length+120,by omega,by rw[h.2.1];show Value.slice (some ⟨(mv0 H.length).f 120,0,some 7⟩) 30 30=_;rw[AI],h.2.2,h.1⟩
def jg(i:Nat):Sz:=(dz i).sz
theorem n6:szs.length=30:=by simp[szs]
theorem oc:szCells.length=210:=by kernel_rfl
theorem D2(l:List Sz):∀(i:Nat),i<l.length→((l.flatMap Sz.cells).drop (i*7)).take 7=(l.getD i Sz.zero).cells:=by
 induction l with
 | nil=>intro i h;simp at h
 | cons s l ih=>
  intro i h
  cases i with
  | zero=>simp[Sz.cells]
  | succ i=>
   have:=ih i (by simpa using h)
   rw[Nat.succ_mul,List.flatMap_cons,List.drop_append]
   simp only[Sz.cells,List.length_cons,List.length_nil]
   rw[show i*7+7-7=i*7 by omega]
   simpa[Sz.cells]using this
theorem Gc{i:Nat}(h:i<30):szs.getD i Sz.zero=jg i:=by
 unfold szs jg
 rw[List.getD_eq_getElem?_getD,List.getElem?_map,List.getElem?_range h];rfl
theorem pd{i:Nat}(h:i<30):(szCells.drop (i*7)).take 7=(jg i).cells:=by rw[←Gc h];exact D2 szs i (by rw[n6];exact h)
theorem mn{i:Nat}(h:i<30):szs.take (i+1)=szs.take i++[jg i]:=by
 rw[List.take_add_one,←Gc h]
 congr 1
 rw[List.getElem?_eq_getElem (by rw[n6];exact h),List.getD_eq_getElem?_getD,List.getElem?_eq_getElem (by rw[n6];exact h)];rfl
theorem w6{i:Nat}(h:i<30):jg i ∈ szs:=ie.2 ⟨i,h,rfl⟩
theorem uH{a b:Sz}:a=b↔a.r=b.r∧a.c=b.c∧a.rr=b.rr∧a.rc=b.rc∧a.d=b.d∧a.k=b.k∧a.b=b.b:=by
 cases a;cases b;simp
theorem Jm{a b:Sz}:aX [1,1,1,1,1,1,1] a.cells b.cells=some (decide (a=b)):=by
 cases a;cases b
 simp[Sz.cells,aX,jC]
 rw[Bool.eq_iff_iff]
 simp
theorem oK{cp:FuncId→Option CF}{lo:Nat}{l:List (Nat×E)}{chk:List E}{Q:aS}{S:List Value}{H:Heap}{vs:List (Nat×Value)}{S':List Value}(k:Q .normal S' H)(h:evSets S H l=some vs:=by simp(disch:=first|omega|(simp only[aK];omega))only[evB,evB, *];rfl)(hc:evChk S H chk=true:=by simp(disch:=first|omega|(simp only[aK];omega))only[evB,evB, *])(hS:setAll S vs=S':=by simp(disch:=first|omega|(simp only[aK];omega))only[evB,evB, *];rfl):wpS cp lo (.sets l chk) Q S H:=cL h hc hS k
theorem QC{cp:FuncId→Option CF}{lo:Nat}{l:List (Nat×E)}{chk:List E}{Q:aS}{S:List Value}{H:Heap}{vs:List (Nat×Value)}{dst:Option Nat}{o:HOp}{a:E}{xs:List Value}(k:wpH cp lo o xs H fun v H'=>Q .normal (setD (setAll S vs) dst v) H')(h:evSets S H l=some vs:=by simp(disch:=first|omega|(simp only[aK];omega))only[evB,evB, *];rfl)(hc:evChk S H chk=true:=by simp(disch:=first|omega|(simp only[aK];omega))only[evB,evB, *])(ha:ev S H a=some xs:=by simp(disch:=first|omega|(simp only[aK];omega))only[evB,evB, *];rfl):wpS cp lo (.hv l chk [] dst o a) Q S H:=eC h hc ha k
theorem oF{cp:FuncId→Option CF}{lo:Nat}{l:List (Nat×E)}{chk:List E}{Q:aS}{S:List Value}{H:Heap}{vs:List (Nat×Value)}{dst:Option Nat}{o:HOp}{a:E}{xs:List Value}{S':List Value}{H':Heap}{v:Value}(hcall:o.isCall=false)(k:Q .normal S' H')(h:evSets S H l=some vs:=by simp(disch:=first|omega|(simp only[aK];omega))only[evB,evB, *];rfl)(hc:evChk S H chk=true:=by simp(disch:=first|omega|(simp only[aK];omega))only[evB,evB, *])(ha:ev S H a=some xs:=by simp(disch:=first|omega|(simp only[aK];omega))only[evB,evB, *];rfl)(ho:bG lo o xs H=some (v,H'):=by simp(disch:=first|omega|(simp only[aK];omega))only[evB,evB, *];rfl)(hS:setD (setAll S vs) dst v=S':=by simp(disch:=first|omega|(simp only[aK];omega))only[evB,evB, *];rfl):wpS cp lo (.hv l chk [] dst o a) Q S H:=eG hcall h hc ha ho hS k
theorem I2{cp:FuncId→Option CF}{lo:Nat}{c:E}{a b:Stm}{Q:aS}{S:List Value}{H:Heap}{t:Bool}(k1:t=true→wpS cp lo a Q S H)(k2:t=false→wpS cp lo b Q S H)(h:ev1 S H c=some (.bool t):=by simp(disch:=first|omega|(simp only[aK];omega))only[evB,evB, *];rfl):wpS cp lo (.cond c a b) Q S H:=cJ h k1 k2
theorem Cl{cf:CF}{R:Value→Heap→Prop}{S:List Value}{H:Heap}{vs:List Value}(k:R (aJ vs) H)(h:evList S H cf.res=some vs:=by simp(disch:=first|omega|(simp only[aK];omega))only[evB,evB, *];rfl):aG cf R .ret S H:=bT h k
theorem index{lo:Nat}{H:Heap}{j:Nat}{s:Sz}(hg:H.get j=some szCells):Ev cp lo 99 [.slice (some ⟨j,0,none⟩) 30 30,s.val] H (fun v H'=>Ext H H'∧∃k:Int,v=.int .i64 k∧decide (0≤k)=decide (s ∈ szs)):=by
 have hj:=Heap.get_lt hg
 refine SR ?_;unfold K8 EW;simp only[kB,aA]
 repeat' ((first|refine oK ?_|refine oF rfl ?_);(try simp only[aA]))
 refine bI (fun m S H'=>∃(i:Int) (x4:Value),0≤i∧i≤30∧m=(30-i).toNat∧S=[.slice (some ⟨j,0,none⟩) 30 30,s.val,.pointer (some ⟨H.length,0,none⟩),.int .i64 0,x4,.int .i64 30,.int .i64 i]∧H'=H++[some s.cells]∧¬ s ∈ szs.take i.toNat) 30 ?_ ?_
 ·exact⟨0,_,by omega,by omega,by omega,rfl,rfl,by simp⟩
 rintro m S H2 ⟨i,x4,hi0,hi1,rfl,rfl,rfl,hno⟩
 (try simp only[aA])
 refine I2 (fun h=>?_) (fun h=>?_)
 ·have hi:i<30:=by simpa using h
  clear h
  have hrow:=pd (i:=i.toNat) (by omega)
  have hlen:=oc
  have hse:=Jm (a:=s) (b:=jg i.toNat)
  simp only[Sz.cells]at hse
  have hmem:=w6 (i:=i.toNat) (by omega)
  (try simp only[aA])
  repeat' ((first|refine oK ?_|refine oF rfl ?_);(try simp only[aA]))
  refine I2 (fun h=>?_) (fun h=>?_)
  ·have he:s=jg i.toNat:=by rw[uH];simpa using h
   clear h
   (try simp only[aA])
   repeat' ((first|refine oK ?_|refine oF rfl ?_);(try simp only[aA]))
   refine Cl ?_
   refine⟨Ext.app _ _,i,rfl,?_⟩
   rw[he];simp[hmem,hi0]
  ·have he:¬ s=jg i.toNat:=by rw[uH];simpa using h
   clear h
   (try simp only[aA])
   repeat' ((first|refine oK ?_|refine oF rfl ?_);(try simp only[aA]))
   simp only[cE]
   refine⟨(30-(i+1)).toNat,by omega,i+1,_,by omega,by omega,rfl,rfl,by trivial,?_⟩
   rw[show(i+1).toNat=i.toNat+1 by omega,mn (by omega)]
   intro hm
   rcases List.mem_append.1 hm with hm|hm
   ·exact hno hm
   ·simp at hm;exact he hm
 ·obtain rfl:i=30:=by simp at h;omega
  clear h
  (try simp only[aA])
  repeat' ((first|refine oK ?_|refine oF rfl ?_);(try simp only[aA]))
  refine Cl ?_
  refine⟨Ext.app _ _,-1,rfl,?_⟩
  rw[List.take_of_length_le (by rw[n6];omega)]at hno
  simp[hno]
theorem contains{lo:Nat}{H:Heap}{j:Nat}{s:Sz}(hg:H.get j=some szCells):Ev cp lo 54 [.slice (some ⟨j,0,none⟩) 30 30,s.val] H (fun v H'=>Ext H H'∧v=.bool (decide (s ∈ szs))):=by
 have hj:=Heap.get_lt hg
 refine Tt ?_;unfold LU GX;simp only[kB,aA]
 repeat' ((first|refine oK ?_|refine oF rfl ?_);(try simp only[aA]))
 refine QC ?_
 refine aC (index (s:=s) (j:=j) (by simp(disch:=first|omega|(simp only[aK];omega))only[evB,evB, *])) ?_
 rintro v H1 ⟨hx,k,rfl,hk⟩
 (try simp only[aA])
 repeat' ((first|refine oK ?_|refine oF rfl ?_);(try simp only[aA]))
 refine Cl ?_
 exact⟨hx.of_app,by simp only[aJ,hk]⟩
theorem Mc{lo:Nat}{H:Heap}{s:Sz}(hlo:lo≤H.length):Ev cp lo 31 [s.val] H (fun v H'=>Ext H H'∧v=.bool (decide (s ∈ szs))):=by
 refine VP ?_;unfold MH Cz;simp only[kB,aA]
 repeat' ((first|refine oK ?_|refine oF rfl ?_);(try simp only[aA]))
 generalize hG:H++_=G at *
 obtain⟨g0,hxG⟩:=aV hG
 clear hG
 have hlG:=hxG.1
 refine QC ?_
 refine aC (MK (by omega)) ?_
 rintro v H1 ⟨j,hj,rfl,hg,hx1⟩
 have g0:=hx1.get g0
 have hx1:=hxG.trans hx1
 have hj2:=Heap.get_lt hg
 (try simp only[aA])
 repeat' ((first|refine oK ?_|refine oF rfl ?_);(try simp only[aA]))
 refine bI (fun m S H'=>∃(i:Int) (x5:Value),0≤i∧i≤30∧m=(30-i).toNat∧S=[s.val,.pointer (some ⟨H.length,0,none⟩),.bool false,.slice (some ⟨j,0,some 7⟩) 30 30,.int .i64 i,x5]∧H1=H'∧¬ s ∈ szs.take i.toNat) 30 ?_ ?_
 ·exact⟨0,_,by omega,by omega,by omega,rfl,rfl,by simp⟩
 rintro m S H2 ⟨i,x4,hi0,hi1,rfl,rfl,rfl,hno⟩
 (try simp only[aA])
 refine I2 (fun h=>?_) (fun h=>?_)
 ·have hi:i<30:=by simpa using h
  clear h
  have hrow:=pd (i:=i.toNat) (by omega)
  have hlen:=oc
  have hse:=Jm (a:=jg i.toNat) (b:=s)
  have hgs:(jg i.toNat).cells=[.int .i64 (jg i.toNat).r,.int .i64 (jg i.toNat).c,.int .i64 (jg i.toNat).rr,.int .i64 (jg i.toNat).rc,.int .i64 (jg i.toNat).d,.int .i64 (jg i.toNat).k,.int .i64 (jg i.toNat).b]:=rfl
  simp only[Sz.cells]at hse
  clear hgs
  have hmem:=w6 (i:=i.toNat) (by omega)
  (try simp only[aA])
  repeat' ((first|refine oK ?_|refine oF rfl ?_);(try simp only[aA]))
  refine I2 (fun h=>?_) (fun h=>?_)
  ·have he:jg i.toNat=s:=by rw[uH];simpa using h
   clear h
   (try simp only[aA])
   repeat' ((first|refine oK ?_|refine oF rfl ?_);(try simp only[aA]))
   refine Cl ?_
   refine⟨hx1,?_⟩
   rw[←he];simp[hmem,aJ]
  ·have he:¬ jg i.toNat=s:=by rw[uH];simpa using h
   clear h
   (try simp only[aA])
   repeat' ((first|refine oK ?_|refine oF rfl ?_);(try simp only[aA]))
   simp only[cE]
   refine⟨(30-(i+1)).toNat,by omega,i+1,_,by omega,by omega,rfl,rfl,by trivial,?_⟩
   rw[show(i+1).toNat=i.toNat+1 by omega,mn (by omega)]
   intro hm
   rcases List.mem_append.1 hm with hm|hm
   ·exact hno hm
   ·simp at hm;exact he hm.symm
 ·obtain rfl:i=30:=by simp at h;omega
  clear h
  (try simp only[aA])
  repeat' ((first|refine oK ?_|refine oF rfl ?_);(try simp only[aA]))
  refine Cl ?_
  refine⟨hx1,?_⟩
  rw[List.take_of_length_le (by rw[n6];omega)]at hno
  simp[hno,aJ]
def fZ(s:Sz)(l:List Int)(n:Int):Int:=if ¬ s ∈ szs then 14 else if (l.length:Int)≠n then 7 else if inF 256 l=true then 0 else 3
section
variable {lo:Nat}{H:Heap}{s:Sz}
theorem zp{l:List Int}{i:Nat}(hi:i<l.length)(h:inF 256 l=true):0≤l.getD i 0∧l.getD i 0≤255:=by
 have:=(gQ (sz:=256)).1 h (l.getD i 0) (by rw[List.getD_eq_getElem?_getD,List.getElem?_eq_getElem hi];exact List.getElem_mem hi)
 omega
theorem um{l:List Int}{i:Nat}(hi:i<l.length)(hin:inF 256 (l.take i)=true)(h0:0≤l.getD i 0)(h1:l.getD i 0≤255):inF 256 (l.take (i+1))=true:=by
 have hs:=eZ (p:=fun x=>!(decide (x<0) || decide ((256:Int)≤x))) hi
 unfold inF at hin ⊢
 rw[hs,hin]
 simp only[Bool.true_and,Bool.not_eq_true',Bool.or_eq_false_iff,decide_eq_false_iff_not];omega
set_option linter.defProp false in
def HY:=And.intro @Int.cast_ofNat_Int (And.intro @fv.eq_1 (And.intro @fvf.eq_1 (And.intro @ite_self.{1} (And.intro @iI (And.intro @iE (And.intro @iA (And.intro @cdC.eq_1 (And.intro @arC.eq_1 @Sz.cells.eq_1))))))))
theorem ox{P:Prop}(h:P:=by simp(disch:=first|omega|(simp only[aK];omega))only[evB,HY,Nat.reduceAdd,Nat.reduceBEq, *];rfl):P:=h
theorem kV{cp:FuncId→Option CF}{lo:Nat}{l:List (Nat×E)}{chk:List E}{Q:aS}{S:List Value}{H:Heap}{vs:List (Nat×Value)}{S':List Value}(k:Q .normal S' H)(h:evSets S H l=some vs:=by exact ox)(hc:evChk S H chk=true:=by simp(disch:=first|omega|(simp only[aK];omega))only[evB,HY,Nat.reduceAdd,Nat.reduceBEq, *])(hS:setAll S vs=S':=by exact ox):wpS cp lo (.sets l chk) Q S H:=cL h hc hS k
theorem Db{cp:FuncId→Option CF}{lo:Nat}{l:List (Nat×E)}{chk:List E}{Q:aS}{S:List Value}{H:Heap}{vs:List (Nat×Value)}{dst:Option Nat}{o:HOp}{a:E}{xs:List Value}(k:wpH cp lo o xs H fun v H'=>Q .normal (setD (setAll S vs) dst v) H')(h:evSets S H l=some vs:=by exact ox)(hc:evChk S H chk=true:=by simp(disch:=first|omega|(simp only[aK];omega))only[evB,HY,Nat.reduceAdd,Nat.reduceBEq, *])(ha:ev S H a=some xs:=by exact ox):wpS cp lo (.hv l chk [] dst o a) Q S H:=eC h hc ha k
theorem kQ{cp:FuncId→Option CF}{lo:Nat}{l:List (Nat×E)}{chk:List E}{Q:aS}{S:List Value}{H:Heap}{vs:List (Nat×Value)}{dst:Option Nat}{o:HOp}{a:E}{xs:List Value}{S':List Value}{H':Heap}{v:Value}(hcall:o.isCall=false)(k:Q .normal S' H')(h:evSets S H l=some vs:=by exact ox)(hc:evChk S H chk=true:=by simp(disch:=first|omega|(simp only[aK];omega))only[evB,HY,Nat.reduceAdd,Nat.reduceBEq, *])(ha:ev S H a=some xs:=by exact ox)(ho:bG lo o xs H=some (v,H'):=by exact ox)(hS:setD (setAll S vs) dst v=S':=by exact ox):wpS cp lo (.hv l chk [] dst o a) Q S H:=eG hcall h hc ha ho hS k
theorem qL{cp:FuncId→Option CF}{lo:Nat}{c:E}{a b:Stm}{Q:aS}{S:List Value}{H:Heap}{t:Bool}(k1:t=true→wpS cp lo a Q S H)(k2:t=false→wpS cp lo b Q S H)(h:ev1 S H c=some (.bool t):=by exact ox):wpS cp lo (.cond c a b) Q S H:=cJ h k1 k2
theorem x6{cf:CF}{R:Value→Heap→Prop}{S:List Value}{H:Heap}{vs:List Value}(k:R (aJ vs) H)(h:evList S H cf.res=some vs:=by exact ox):aG cf R .ret S H:=bT h k
theorem G9{v:Value}{l:List Int}{n:Int}(hl:SlI H v l)(hll:l.length≤1000000000)(hlo:lo≤H.length):Ev cp lo 27 [v,s.val,.int .i64 n] H (fun r H'=>Ext H H'∧r=.int .i64 (fZ s l n)):=by
 have hl0:=hl
 obtain⟨ad,c,rfl⟩:=hl.len
 refine Sw ?_;unfold Kw CC;simp only[kB,aA]
 repeat' ((first|refine kV ?_|refine kQ rfl ?_);(try simp only[aA]))
 generalize hG:H++_=G at *
 obtain⟨g0,hxG⟩:=aV hG
 clear hG
 have hlG:=hxG.1
 refine Db ?_
 refine aQ (Ll (Nat.le_refl _)) ?_
 rintro r H1 ⟨j,hj,rfl,hg,hx1⟩
 have g0:=hx1.get g0
 have hx1:=hxG.trans hx1
 (try simp only[aA])
 refine Db ?_
 refine gi (first:=#[]) (cap:=#[]) (args:=[.slice (some ⟨j,0,none⟩) 30 30,s.val]) (contains (s:=s) hg) ?_
 rintro r H2 ⟨hx2,rfl⟩
 have hx2:=hx1.trans hx2
 clear hg hj hx1 g0
 have hl2:=hx2.1
 (try simp only[aA])
 by_cases hs:s ∈ szs
 case neg=>
  have he:fZ s l n=14:=if_pos hs
  rw[he]
  refine qL (fun h=>?_) (fun h=>?_)
  case refine_2=>exfalso;simp[hs]at h
  clear h
  (try simp only[aA])
  repeat' ((first|refine kV ?_|refine kQ rfl ?_);(try simp only[aA]))
  refine x6 ?_
  exact⟨hx2,rfl⟩
 have he:fZ s l n=if (l.length:Int)≠n then 7 else if inF 256 l=true then 0 else 3:=if_neg (fun h=>h hs)
 rw[he]
 clear he
 refine qL (fun h=>?_) (fun h=>?_)
 ·exfalso;simp[hs]at h
 clear h
 (try simp only[aA])
 by_cases hn:(l.length:Int)=n
 case neg=>
  rw[if_pos hn]
  refine qL (fun h=>?_) (fun h=>?_)
  case refine_2=>exfalso;simp at h;exact hn h
  clear h
  (try simp only[aA])
  repeat' ((first|refine kV ?_|refine kQ rfl ?_);(try simp only[aA]))
  refine x6 ?_
  exact⟨hx2,rfl⟩
 rw[if_neg (fun h=>h hn)]
 subst hn
 refine qL (fun h=>?_) (fun h=>?_)
 ·exfalso;simp at h
 clear h
 (try simp only[aA])
 repeat' ((first|refine kV ?_|refine kQ rfl ?_);(try simp only[aA]))
 refine aU (fun i S H'=>H2=H'∧inF 256 (l.take i)=true∧∃(z:Nat→Value),S=[z 0,z 1,z 2,z 3,z 4,z 5,z 6,z 7,z 8,.slice ad l.length c,.int .i64 (l.length:Nat),.int .i64 (i:Nat)]) l.length ?_ ?_ ?_ ?_
 ·exact⟨rfl,rfl,aL rfl⟩
 ·rintro i S H' hi ⟨rfl,-,z,rfl⟩
  exact⟨_,ox,by simp⟩
 ·rintro i S H' hi ⟨rfl,hin,z,rfl⟩
  obtain⟨b,o,sp,cap,xs,e,gx,hat,hxl⟩:=(hl0.mono hx2).els 0 (by omega)
  cases e
  have hati:=hat i hi
  have hok:=um hi hin
  clear hat
  (try simp only[aA])
  repeat' ((first|refine kV ?_|refine kQ rfl ?_);(try simp only[aA]))
  by_cases hb:0≤l.getD i 0∧l.getD i 0≤255
  ·replace hok:=hok hb.1 hb.2
   generalize l.getD i 0=y at *
   refine qL (fun h=>?_) (fun h=>?_)
   ·exfalso;simp at h;omega
   clear h
   (try simp only[aA])
   repeat' ((first|refine kV ?_|refine kQ rfl ?_);(try simp only[aA]))
   exact⟨by trivial,hok,aL (by first|rfl|(simp only[Int.natCast_add,Int.natCast_one];rfl)|simp only[Int.natCast_add,Int.natCast_one])⟩
  ·have hno:¬ inF 256 l=true:=fun h=>hb (zp hi h)
   rw[if_neg hno]
   clear hok hin hno
   generalize l.getD i 0=y at *
   refine qL (fun h=>?_) (fun h=>?_)
   case refine_2=>exfalso;simp at h;omega
   clear h
   (try simp only[aA])
   repeat' ((first|refine kV ?_|refine kQ rfl ?_);(try simp only[aA]))
   refine x6 ?_
   exact⟨hx2,rfl⟩
 ·rintro S H' ⟨rfl,hin,z,rfl⟩
  rw[List.take_of_length_le (Nat.le_refl _)]at hin
  rw[if_pos hin]
  (try simp only[aA])
  repeat' ((first|refine kV ?_|refine kQ rfl ?_);(try simp only[aA]))
  refine x6 ?_
  exact⟨hx2,rfl⟩
theorem MN{v:Value}{l:List Int}(hl:SlI H v l)(hll:l.length≤1000000000):Ev cp lo 32 [v] H (fun r H'=>H=H'∧r=.bool (inF 256 l)):=by
 have hl0:=hl
 obtain⟨ad,c,rfl⟩:=hl.len
 refine TQ ?_;unfold Ka Dx;simp only[kB,aA]
 repeat' ((first|refine kV ?_|refine kQ rfl ?_);(try simp only[aA]))
 refine aU (fun i S H'=>H=H'∧inF 256 (l.take i)=true∧∃(z:Nat→Value),S=[.slice ad l.length c,z 1,.int .i64 (i:Nat)]) l.length ?_ ?_ ?_ ?_
 ·exact⟨rfl,rfl,aL rfl⟩
 ·rintro i S H' hi ⟨rfl,-,z,rfl⟩
  exact⟨_,ox,by simp⟩
 ·rintro i S H' hi ⟨rfl,hin,z,rfl⟩
  obtain⟨b,o,sp,cap,xs,e,gx,hat,hxl⟩:=hl0.els 0 (by omega)
  cases e
  have hati:=hat i hi
  have hok:=um hi hin
  clear hat
  (try simp only[aA])
  by_cases hb:0≤l.getD i 0∧l.getD i 0≤255
  ·replace hok:=hok hb.1 hb.2
   generalize l.getD i 0=y at *
   refine qL (fun h=>?_) (fun h=>?_)
   ·exfalso;simp at h;omega
   clear h
   (try simp only[aA])
   repeat' ((first|refine kV ?_|refine kQ rfl ?_);(try simp only[aA]))
   exact⟨by trivial,hok,aL (by first|rfl|(simp only[Int.natCast_add,Int.natCast_one];rfl)|simp only[Int.natCast_add,Int.natCast_one])⟩
  ·have hno:inF 256 l=false:=by
    rw[Bool.eq_false_iff]
    exact fun h=>hb (zp hi h)
   rw[hno]
   clear hok hin hno
   generalize l.getD i 0=y at *
   refine qL (fun h=>?_) (fun h=>?_)
   case refine_2=>exfalso;simp at h;omega
   clear h
   (try simp only[aA])
   repeat' ((first|refine kV ?_|refine kQ rfl ?_);(try simp only[aA]))
   refine x6 ?_
   exact⟨rfl,rfl⟩
 ·rintro S H' ⟨rfl,hin,z,rfl⟩
  rw[List.take_of_length_le (Nat.le_refl _)]at hin
  rw[hin]
  (try simp only[aA])
  repeat' ((first|refine kV ?_|refine kQ rfl ?_);(try simp only[aA]))
  refine x6 ?_
  exact⟨rfl,rfl⟩
theorem Ik(hlo:lo≤H.length):Ev cp lo 56 [.int .i64 8,.int .i64 301] H (fun r H'=>Ext H H'∧r=.tuple #[fv 2 256 301,.int .i64 0]):=by
 have hsh:IntKind.i64.wrap (1*2^(min (8:Int).toNat IntKind.i64.bits))=256:=by decide
 refine Su ?_;unfold Ks Gr;simp only[kB,aA]
 repeat' ((first|refine kV ?_|refine kQ rfl ?_);(try simp only[aA]))
 refine qL (fun h=>?_) (fun h=>?_)
 ·exfalso;simp at h
 clear h
 (try simp only[aA])
 repeat' ((first|refine kV ?_|refine kQ rfl ?_);(try simp only[aA]))
 generalize hG:H++_=G at *
 obtain⟨g0,hxG⟩:=aV hG
 have g1:Heap.get G (H.length+1)=some [Value.int .i64 2,Value.int .i64 256,Value.int .i64 301]:=by rw[←hG,az];rfl
 clear hG
 refine Db ?_
 refine aC (valid (ch:=2) (sz:=256) (po:=301) (by decide)) ?_
 rintro r H1 ⟨hx1,t,rfl,ht⟩
 have htt:t=true:=ht.2 ⟨_,yw⟩
 subst htt
 clear ht
 have g0:=(hx1).get g0;have g1:=(hx1).get g1
 have hx1:=hxG.trans hx1
 have hl1:=Heap.get_lt g1
 (try simp only[aA])
 refine qL (fun h=>?_) (fun h=>?_)
 ·cases h
 clear h
 (try simp only[aA])
 repeat' ((first|refine kV ?_|refine kQ rfl ?_);(try simp only[aA]))
 refine x6 ?_
 exact⟨hx1.set (by omega),rfl⟩
end
section
variable {lo:Nat}{H:Heap}
theorem JQ{i:Nat}(hi:i<30)(hlo:lo≤H.length):Ev cp lo 28 [(dz i).sz.val] H (fun r H'=>Ext H H'∧r=.tuple #[cdV (fB 301) (dz i).ck 1,.int .i64 0]):=by
 have hz:=pX hi
 generalize dz i=z at *
 obtain⟨n1,n2,dn,d2,c2,-,k1,k2,al⟩:=hz
 have hok:nL 2 256 301 (z.ck:Nat) 1:=⟨⟨_,yw⟩,by omega,by omega,by omega,by omega⟩
 have hdiv:(z.c:Int).tdiv (z.n:Int)=(z.ck:Nat):=(Int.ofNat_tdiv z.c z.n).symm
 unfold Dz.sz Sz.val
 refine Tb ?_;unfold LH Em;simp only[kB,aA]
 repeat' ((first|refine kV ?_|refine kQ rfl ?_);(try simp only[aA]))
 generalize hG:H++_=G at *
 obtain⟨g0,hxG⟩:=aV hG
 have g1:Heap.get G (H.length+1)=some (List.replicate 5 (Value.int .i64 0)):=by rw[←hG,az];rfl
 clear hG
 have hlG:=Heap.get_lt g1
 refine Db ?_
 refine aC (Ik (by omega)) ?_
 rintro r H1 ⟨hx1,rfl⟩
 have g0:=(hx1).get g0;have g1:=(hx1).get g1
 have hx1:=hxG.trans hx1
 have hl1:=Heap.get_lt g1
 unfold fv
 (try simp only[aA])
 repeat' ((first|refine kV ?_|refine kQ rfl ?_);(try simp only[aA]))
 generalize hG:H1++_=G1 at *
 obtain⟨g2,hxG1⟩:=aV hG
 clear hG
 have g0:=(hxG1).get g0;have g1:=(hxG1).get g1
 have hx2:=hx1.trans hxG1
 have hl2:=hx2.1
 refine qL (fun h=>?_) (fun h=>?_)
 ·cases h
 clear h
 (try simp only[aA])
 refine Db ?_
 refine gi (first:=#[]) (cap:=#[]) (args:=[fv 2 256 301,.int .i64 (z.ck:Nat),.int .i64 1]) (UE (ch:=2) (sz:=256) (po:=301) (r:=(z.ck:Nat)) (b:=1) (by omega) (by omega)) ?_
 rintro r H3 ⟨hx3,-,-,hv⟩
 rw[hv hok]
 clear hv
 have g0:=(hx3).get g0;have g1:=(hx3).get g1
 have hx3:=hx2.trans hx3
 have hl3:=Heap.get_lt g1
 unfold cdI
 (try simp only[aA])
 repeat' ((first|refine kV ?_|refine kQ rfl ?_);(try simp only[aA]))
 refine x6 ?_
 exact⟨hx3.set (by omega),rfl⟩
theorem rW{l:List Int}{n x k:Nat}(hx:x<n)(hk:k<cnt l.length n x):(fK l 0 n x).take (k+1)=(fK l 0 n x).take k++[l.getD (x+k*n) 0]:=by
 rw[List.take_add_one]
 congr 1
 unfold fK
 rw[List.getElem?_map,List.getElem?_range hk];rfl
end
section
variable {lo:Nat}{H:Heap}
theorem step_eq(x k n:Nat):((x+k*n:Nat):Int)+(n:Nat)=((x+(k+1)*n:Nat):Int):=by
 have:=Nat.succ_mul k n
 rw[show(k+1)*n=k*n+n from this];omega
theorem zl{N n x:Nat}(hx:x<n):cnt N n x≤N:=by
 apply Nat.le_of_not_lt;intro h
 rw[dd hx]at h
 have:=Nat.le_mul_of_pos_right N (show 0<n by omega)
 omega
set_option linter.defProp false in
def kK:=And.intro @Int.cast_ofNat_Int @ite_self.{1}
theorem mu{P:Prop}(h:P:=by simp(disch:=first|omega|(simp only[aK];omega))only[evB,kK,Nat.reduceAdd,Nat.reduceBEq, *];rfl):P:=h
theorem oL{cp:FuncId→Option CF}{lo:Nat}{l:List (Nat×E)}{chk:List E}{Q:aS}{S:List Value}{H:Heap}{vs:List (Nat×Value)}{S':List Value}(k:Q .normal S' H)(h:evSets S H l=some vs:=by exact mu)(hc:evChk S H chk=true:=by simp(disch:=first|omega|(simp only[aK];omega))only[evB,kK,Nat.reduceAdd,Nat.reduceBEq, *])(hS:setAll S vs=S':=by exact mu):wpS cp lo (.sets l chk) Q S H:=cL h hc hS k
theorem Fl{cp:FuncId→Option CF}{lo:Nat}{l:List (Nat×E)}{chk:List E}{Q:aS}{S:List Value}{H:Heap}{vs:List (Nat×Value)}{dst:Option Nat}{o:HOp}{a:E}{xs:List Value}(k:wpH cp lo o xs H fun v H'=>Q .normal (setD (setAll S vs) dst v) H')(h:evSets S H l=some vs:=by exact mu)(hc:evChk S H chk=true:=by simp(disch:=first|omega|(simp only[aK];omega))only[evB,kK,Nat.reduceAdd,Nat.reduceBEq, *])(ha:ev S H a=some xs:=by exact mu):wpS cp lo (.hv l chk [] dst o a) Q S H:=eC h hc ha k
theorem nr{cp:FuncId→Option CF}{lo:Nat}{l:List (Nat×E)}{chk:List E}{Q:aS}{S:List Value}{H:Heap}{vs:List (Nat×Value)}{dst:Option Nat}{o:HOp}{a:E}{xs:List Value}{S':List Value}{H':Heap}{v:Value}(hcall:o.isCall=false)(k:Q .normal S' H')(h:evSets S H l=some vs:=by exact mu)(hc:evChk S H chk=true:=by simp(disch:=first|omega|(simp only[aK];omega))only[evB,kK,Nat.reduceAdd,Nat.reduceBEq, *])(ha:ev S H a=some xs:=by exact mu)(ho:bG lo o xs H=some (v,H'):=by exact mu)(hS:setD (setAll S vs) dst v=S':=by exact mu):wpS cp lo (.hv l chk [] dst o a) Q S H:=eG hcall h hc ha ho hS k
theorem Mq{cp:FuncId→Option CF}{lo:Nat}{c:E}{a b:Stm}{Q:aS}{S:List Value}{H:Heap}{t:Bool}(k1:t=true→wpS cp lo a Q S H)(k2:t=false→wpS cp lo b Q S H)(h:ev1 S H c=some (.bool t):=by exact mu):wpS cp lo (.cond c a b) Q S H:=cJ h k1 k2
theorem Hh{cf:CF}{R:Value→Heap→Prop}{S:List Value}{H:Heap}{vs:List Value}(k:R (aJ vs) H)(h:evList S H cf.res=some vs:=by exact mu):aG cf R .ret S H:=bT h k
theorem Cs{v:Value}{l:List Int}{n x:Nat}(hl:SlI H v l)(hll:l.length≤1000000000)(hx:x<n)(hn:n≤1000)(hlo:lo≤H.length):Ev cp lo 30 [v,.int .i64 (n:Nat),.int .i64 (x:Nat)] H (fun r H'=>Ext H H'∧SlI H' r (fK l 0 n x)):=by
 have hl0:=hl
 obtain⟨ad,c,rfl⟩:=hl.len
 refine V8 ?_;unfold L4 GJ;simp only[kB,aA]
 repeat' ((first|refine oL ?_|refine nr rfl ?_);(try simp only[aA]))
 have e0:((x:Nat):Int)=((x+0*n:Nat):Int):=by simp
 refine aU (fun k S H'=>Ext H H'∧∃(vo:Value) (bo:Nat),Own H.length 1 H' vo bo (bA ((fK l 0 n x).take k))∧∃(z:Nat→Value),S=[.slice ad l.length c,.int .i64 (n:Nat),z 2,z 3,vo,.int .i64 (x+k*n:Nat),z 6,z 7,z 8]) (cnt l.length n x) ?_ ?_ ?_ ?_
 ·exact⟨Ext.refl _,_,_,Own.nil (Nat.le_refl _),aL (by simp only[Nat.zero_mul,Nat.add_zero];rfl)⟩
 ·rintro k S H' hk ⟨hx1,vo,bo,-,z,rfl⟩
  exact⟨_,mu,by rw[dd hx];simp only[decide_eq_true_eq];omega⟩
 ·rintro k S H2 hk ⟨hx2,vo,bo,oo,z,rfl⟩
  have hl2:=hx2.1
  have hkl:=(dd hx).1 hk
  have hcl:((fK l 0 n x).take k).length≤1000000000:=by
   rw[List.length_take,jP]
   have:=zl (N:=l.length) hx
   omega
  have hsn:=rW (l:=l) hx hk
  have hse:=step_eq x k n
  obtain⟨xb,xo,xsp,xc,xs,e1,g1,f1,_⟩:=(hl0.mono hx2).els 0 (by omega)
  cases e1
  have k1:=f1 _ hkl
  have hxg:=Heap.get_lt g1
  clear f1 e0
  rw[hsn]
  clear hsn
  generalize (fK l 0 n x).take k=acc at *
  generalize x+k*n=p at *
  generalize x+(k+1)*n=p' at *
  generalize l.getD p 0=y at *
  replace hse:False∨_:=.inr hse
  (try simp only[aA])
  repeat' ((first|refine oL ?_|refine nr rfl ?_);(try simp only[aA]))
  refine Fl ?_
  refine dR (b:=bo) (cells:=bA acc) (c:=bA [y]) ((oo.mono (Ext.app _ _)).lower (by omega)) (by simp;omega) (by omega) (by omega) (by rw[jF];omega) aN (by simp) rfl rfl ?_
  rw[←qe]
  intro vo' H3 oo' hk3 hl3
  have hx3:=hk3.ext (hx2.trans (Ext.app H2 _)) oo.1
  (try simp only[aA])
  repeat' ((first|refine oL ?_|refine nr rfl ?_);(try simp only[aA]))
  exact⟨hx3,vo',_,⟨by simp;omega,oo'.2⟩,aL (by rw[hse.resolve_left id];rfl)⟩
 ·rintro S H2 ⟨hx2,vo,bo,oo,z,rfl⟩
  rw[List.take_of_length_le (by rw[jP];exact Nat.le_refl _)]at oo
  (try simp only[aA])
  repeat' ((first|refine oL ?_|refine nr rfl ?_);(try simp only[aA]))
  refine Hh ?_
  exact⟨hx2,Sl.ofOwn oo⟩
theorem MP{v:Value}{l:List Int}{n x:Nat}(hl:SlI H v l)(hll:l.length≤1000000000)(hx:x<n)(hn:n≤1000)(hlo:lo≤H.length):Ev cp lo 35 [v,.int .i64 (x:Nat),.int .i64 (n:Nat)] H (fun r H'=>Ext H H'∧SlI H' r (fK l 0 n x)):=by
 have hl0:=hl
 obtain⟨ad,c,rfl⟩:=hl.len
 refine Sq ?_;unfold Kq G8;simp only[kB,aA]
 repeat' ((first|refine oL ?_|refine nr rfl ?_);(try simp only[aA]))
 have e0:((x:Nat):Int)=((x+0*n:Nat):Int):=by simp
 refine aU (fun k S H'=>Ext H H'∧∃(vo:Value) (bo:Nat),Own H.length 1 H' vo bo (bA ((fK l 0 n x).take k))∧∃(z:Nat→Value),S=[.slice ad l.length c,z 1,.int .i64 (n:Nat),z 3,vo,.int .i64 (x+k*n:Nat),z 6,z 7,z 8]) (cnt l.length n x) ?_ ?_ ?_ ?_
 ·exact⟨Ext.refl _,_,_,Own.nil (Nat.le_refl _),aL (by simp only[Nat.zero_mul,Nat.add_zero];rfl)⟩
 ·rintro k S H' hk ⟨hx1,vo,bo,-,z,rfl⟩
  exact⟨_,mu,by rw[dd hx];simp only[decide_eq_true_eq];omega⟩
 ·rintro k S H2 hk ⟨hx2,vo,bo,oo,z,rfl⟩
  have hl2:=hx2.1
  have hkl:=(dd hx).1 hk
  have hcl:((fK l 0 n x).take k).length≤1000000000:=by
   rw[List.length_take,jP]
   have:=zl (N:=l.length) hx
   omega
  have hsn:=rW (l:=l) hx hk
  have hse:=step_eq x k n
  obtain⟨xb,xo,xsp,xc,xs,e1,g1,f1,_⟩:=(hl0.mono hx2).els 0 (by omega)
  cases e1
  have k1:=f1 _ hkl
  have hxg:=Heap.get_lt g1
  clear f1 e0
  rw[hsn]
  clear hsn
  generalize (fK l 0 n x).take k=acc at *
  generalize x+k*n=p at *
  generalize x+(k+1)*n=p' at *
  generalize l.getD p 0=y at *
  replace hse:False∨_:=.inr hse
  (try simp only[aA])
  repeat' ((first|refine oL ?_|refine nr rfl ?_);(try simp only[aA]))
  refine Fl ?_
  refine dR (b:=bo) (cells:=bA acc) (c:=bA [y]) ((oo.mono (Ext.app _ _)).lower (by omega)) (by simp;omega) (by omega) (by omega) (by rw[jF];omega) aN (by simp) rfl rfl ?_
  rw[←qe]
  intro vo' H3 oo' hk3 hl3
  have hx3:=hk3.ext (hx2.trans (Ext.app H2 _)) oo.1
  (try simp only[aA])
  repeat' ((first|refine oL ?_|refine nr rfl ?_);(try simp only[aA]))
  exact⟨hx3,vo',_,⟨by simp;omega,oo'.2⟩,aL (by rw[hse.resolve_left id];rfl)⟩
 ·rintro S H2 ⟨hx2,vo,bo,oo,z,rfl⟩
  rw[List.take_of_length_le (by rw[jP];exact Nat.le_refl _)]at oo
  (try simp only[aA])
  repeat' ((first|refine oL ?_|refine nr rfl ?_);(try simp only[aA]))
  refine Hh ?_
  exact⟨hx2,Sl.ofOwn oo⟩
end
end Go.Proofs.YtmnlgdpdgjbfgaaGreat
