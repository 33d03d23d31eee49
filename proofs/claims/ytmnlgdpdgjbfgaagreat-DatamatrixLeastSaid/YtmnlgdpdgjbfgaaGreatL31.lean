/- Lemmas. -/
import Derived.Test.YtmnlgdpdgjbfgaaGreatL9
import Derived.Test.YtmnlgdpdgjbfgaaGreatL21
import Derived.Test.YtmnlgdpdgjbfgaaGreatL29
import Derived.Test.YtmnlgdpdgjbfgaaGreatL30
set_option linter.all false
namespace Go.Proofs.YtmnlgdpdgjbfgaaGreat
open Go.Abs
variable{p:List UInt8}
set_option maxRecDepth 20000
section
variable {ws W:List Nat}{p:List UInt8}{a:Nat}{o:Opt}
end
theorem mk_le:∀(k:Nat) (l:List Nat),∀x ∈ mk k l,x<=255
 | k,y::l,x,h=>by
  simp only[mk]at h;rcases List.mem_cons.1 h with rfl|h
  ·omega
  ·exact mk_le (k+1) l x h
theorem Oj{o:Opt}(h:o.h0<=255/\o.h1<=255/\o.h2<=255):∀x ∈ hd o,x<=255:=by
 intro x hx;have:=List.mem_of_mem_take hx;simp only[be₀,List.not_mem_nil,or_false]at this;rcases this with rfl|rfl|rfl<;>omega
theorem G7{k a:Nat}{o:Opt}(h:o.h0<=255/\o.h1<=255/\o.h2<=255):∀x ∈ emit p k a o,x<=255:=by
 intro x hx;unfold emit at hx;split at hx
 ·exact Oj h x hx
 ·rcases List.mem_cons.1 hx with rfl|hx
  ·exact h.1
  ·exact mk_le _ _ x hx
theorem Fp{p:List UInt8}{c:List Nat}(hs:Sol p c):∀(f a st:Nat) (W:List Nat),a<=p.length->st<19->cst c a st<1073741824->(∀x ∈ W,x<=255)->∀x ∈ pD p c f a st W,x<=255
 | 0,a,st,W,ha,hst,hc,hW=>hW
 | f+1,a,st,W,ha,hst,hc,hW=>by
  rw[pD];split
  ·exact hW
  ·rename_i hfin
   obtain⟨hm,ht⟩:=xm hs ha hst hc hfin;have hok:=iA ha _ hm;have e:bD c (chs p c a st)=(chs p c a st).sz+(chs p c a st).run+cst c (chs p c a st).nx (chs p c a st).md:=rfl;refine Fp hs f _ _ _ hok.nx.2 hok.md byO fun x hx=>?_;rcases List.mem_append.1 hx with hx|hx
   ·exact hW x hx
   ·exact G7 hok.h x hx
theorem L7{c:List Nat}(hs:Sol p c)(hp:p.length<=4096):∀x ∈ kc p c,x<=255:=by
 have:=km hs p.length 0 byO;exact Fp hs _ _ _ _ (Nat.zero_le _) byO byO (by simp)
abbrev zI(l:List Nat):List Int:=l.map (fun i:Nat=>(i:Int))
theorem O3{l:List Nat}(h:∀x ∈ l,x<=255):uP (zI l)=true:=by
 unfold uP;rw[List.all_eq_true];intro x hx;obtain⟨y,hy,rfl⟩:=List.mem_map.1 hx;have:=h y hy;simp;omega
theorem IA{k i:Nat}:Ec k i<=254:=by
 unfold Ec;split
 ·omega
 ·split<;>omega
def IB(l:List Nat)(m:Nat):List Nat:=l++(List.range m).map fun j=>Ec l.length (l.length+j)
theorem Hz(l:List Nat)(m:Nat):gK (zI l) m=zI (IB l m):=by
 unfold gK IB zI;rw[List.map_append,List.map_map,ay₀];rfl
theorem IC{l:List Nat}{m:Nat}(h:∀x ∈ l,x<=255):∀x ∈ IB l m,x<=255:=by
 intro x hx;rcases List.mem_append.1 hx with hx|hx
 ·exact h x hx
 ·obtain⟨j,_,rfl⟩:=List.mem_map.1 hx
  have:=IA (k:=l.length) (i:=l.length+j);omega
theorem ID{l:List Nat}{m:Nat}(h:∀x ∈ l,x<=255)(hl:l.length+m<=8192):Bn (zI l) ((l.length:Int)+(m:Nat))=.inr (gK (zI l) m):=by
 unfold Bn;rw[O3 h,if_neg (by decide),if_neg byO,if_neg (by simp;omega)];congr 2;simp;omega
theorem Cz{c:List Nat}(hs:Sol p c)(h1:1<=p.length)(h2:p.length<=1749):cst c 0 0<=p.length+(if p.length<250 then 2 else 3):=by
 have hm:=Ht (p:=p) (a:=0) (n:=p.length) h1 h2 byO;have e:(cW 0 p.length).sz=(if p.length<250 then 2 else 3)/\(cW 0 p.length).run=p.length/\(cW 0 p.length).md=0:=by unfold cW;split<;>simp
 have hp:=Pth.cons (p:=p) (a:=0) (st:=0) (m:=0) (Nat.zero_le _) byO hm (by rw[nQ,e.2.2,Nat.zero_add];exact .nil);have:=zZ hs hp;rw[e.1,e.2.1]at this;omega
theorem DA{c:List Nat}(hs:Sol p c)(h:p.length=0):cst c 0 0=0:=by
 have:=(hs.row p.length (Nat.le_refl _)).fin rfl;rw[h]at this;exact this
open XJWd
theorem Oh{lo:Nat}{H:Heap}(n:Int)(sq:Bool)(hlo:lo<=H.length):Ev cp lo 39 [.int .i64 n,.bool sq] H (fun v H'=>Ext H H'/\v=.tuple #[(sS n sq).1.val,.int .i64 (sS n sq).2]):=by
 refine stG rfl rfl ?_;unfold Nr;simp only[kB,aC];refine aj ?_;refine dK ?_ ?_<;>intro h
 ·simp only[af₀]at h
  refine aj ?_;refine eP ?_;exact⟨Ext.app _ _,by simp[aP,sS,h,Sz.zero,Sz.val]⟩
 simp only[ai₀,Int.not_lt]at h;(try simp only[aC]);refine dK ?_ ?_<;>intro h
 ·simp only[af₀]at h
  refine aj ?_;refine eP ?_;exact⟨Ext.app _ _,by simp[aP,sS,h,show ¬ n<1 by omega,Sz.zero,Sz.val]⟩
 rename_i h1;simp only[ai₀,Int.not_lt]at h;refine aj ?_;refine e9 ?_;refine aB (vN (by simp;omega)) ?_;rintro v H1 ⟨j,hj,rfl,hg,hE⟩;have g0:H1.get H.length=some _:=hE.get mI;have g1:H1.get (H.length+1)=some _:=hE.get mI;have hx:=hE.of_app;have hl:=hE.1;simp only[as₀,ak₀,an₀]at hj hl;clear hE;refine aj ?_;refine bH (fun m S H'=>∃(i:Int) (x y:Value),0<=i/\i<=30/\m=(30-i).toNat/\S=[.int .i64 n,.bool sq,.pointer (some ⟨H.length,0,none⟩),.int .i64 0,.pointer (some ⟨H.length+1,0,none⟩),x,.slice (some ⟨j,0,none⟩) 30 30,.int .i64 30,.int .i64 i,y]/\Ext H H'/\j<H'.length/\H'.get H.length=some Sz.zero.cells/\H'.get (H.length+1)=some (dU n sq i.toNat).cells/\H'.get j=some szCells) 30 ?_ ?_
 ·exact⟨0,_,_,byO,byO,byO,rfl,hx,Heap.get_lt hg,g0,g1,hg⟩
 rintro m S H2 ⟨i,x,y,hi0,hi1,rfl,rfl,hx2,hj2,g0,g1,hg⟩;have hl2:=Heap.get_lt g1;(try simp only[aC]);refine dK ?_ ?_<;>intro h
 ·simp only[af₀]at h
  (try simp only[aC]);have hrow:=kT (i:=i.toNat) byO;have hlen:=jL;refine aj ?_;refine dK ?_ ?_<;>intro h
  ·refine aj ?_
   simp only[cN];refine⟨(30-(i+1)).toNat,by omega,i+1,_,_,by omega,by omega,rfl,rfl,hx2.trans (Ext.app _ _),by simp;omega,by simp(disch:=try exact dO)only[evB,xtr, *],?_,by simp(disch:=try exact dO)only[evB,xtr, *]⟩;have hc:(sq=true/\(bP i.toNat).r≠(bP i.toNat).c)\/(bP i.toNat).d<n:=by simpa using h
   rw[show(i+1).toNat=i.toNat+1 by omega,gi byO,gj,if_pos hc];simp(disch:=try exact dO)only[evB,xtr, *]
  ·have hc:¬ ((sq=true/\(bP i.toNat).r≠(bP i.toNat).c)\/(bP i.toNat).d<n):=by
    intro hc;have:(sq&&decide ((bP i.toNat).r≠(bP i.toNat).c) || decide ((bP i.toNat).d<n))=true:=by simpa using hc
    rw[this]at h;cases h
   (try simp only[aC]);refine dK ?_ ?_<;>intro h
   ·have hd:(dU n sq i.toNat).d=0\/(bP i.toNat).d<(dU n sq i.toNat).d:=by simpa using h
    refine aj ?_;simp only[cN];refine⟨(30-(i+1)).toNat,by omega,i+1,_,_,by omega,by omega,rfl,rfl,(hx2.set (by omega)).trans (Ext.app _ _),by simp;omega,by simp(disch:=try exact dO)only[evB,xtr, *],?_,by simp(disch:=try exact dO)only[evB,xtr, *]⟩;rw[show(i+1).toNat=i.toNat+1 by omega,gi byO,gj,if_neg hc,if_pos hd];simp(disch:=try exact dO)only[evB,xtr, *]
   ·have hd:¬ ((dU n sq i.toNat).d=0\/(bP i.toNat).d<(dU n sq i.toNat).d):=by
     intro hc;have:(decide ((dU n sq i.toNat).d=0) || decide ((bP i.toNat).d<(dU n sq i.toNat).d))=true:=by simpa using hc
     rw[this]at h;cases h
    refine aj ?_;simp only[cN];refine⟨(30-(i+1)).toNat,by omega,i+1,_,_,by omega,by omega,rfl,rfl,hx2.trans (Ext.app _ _),by simp;omega,by simp(disch:=try exact dO)only[evB,xtr, *],?_,by simp(disch:=try exact dO)only[evB,xtr, *]⟩;rw[show(i+1).toNat=i.toNat+1 by omega,gi byO,gj,if_neg hc,if_neg hd];simp(disch:=try exact dO)only[evB,xtr, *]
 ·simp only[ai₀,Int.not_lt]at h
  obtain rfl:i=30:=byO;refine aj ?_;refine eP ?_;refine⟨hx2.set (Nat.le_refl _),?_⟩;simp[aP,sS,show ¬ n<1 by omega,show ¬ 1558<n by omega,Sz.val]
end Go.Proofs.YtmnlgdpdgjbfgaaGreat
