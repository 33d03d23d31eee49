/- Lemmas. -/
import Derived.Test.YtmnlgdpdgjbfgaaGreatD24
import Derived.Test.YtmnlgdpdgjbfgaaGreatD26
import Derived.Test.YtmnlgdpdgjbfgaaGreatD31
set_option linter.all false
namespace Go.Proofs.YtmnlgdpdgjbfgaaGreat
open Go.Abs Go.RS
variable{n:Nat}
set_option maxRecDepth 20000
theorem tA{n k:Nat}{F G:Nat->Int}(hk:k<n)(h:∀i,i<n->i≠k->G i=F i):((List.range n).map F).set k (G k)=(List.range n).map G:=by
 refine List.ext_getElem (by simp) fun i h1 h2=>?_;rw[List.getElem_set];simp only[List.getElem_map,List.getElem_range];split
 ·rename_i e;rw[e]
 ·rename_i e
  rw[h i (by simpa using h2) (fun e2=>e e2.symm)]
def mix(n:Nat)(V:Nat->Int)(T x i:Nat):List Int:=(List.range T).map fun j=>if j%n<x\/(j%n=x/\j/n<i) then V j else 0
theorem GZ(n:Nat)(V:Nat->Int)(T x i:Nat):(mix n V T x i).length=T:=by simp[mix]
theorem OT(n:Nat)(V:Nat->Int)(T:Nat):mix n V T 0 0=List.replicate T 0:=by
 unfold mix;rw[List.map_congr_left (g:=fun _=>(0:Int)) (fun j _=>if_neg (fun h=>h.elim (fun h=>absurd h (Nat.not_lt_zero _)) fun h=>absurd h.2 (Nat.not_lt_zero _))),List.map_const',List.length_range]
theorem G0{V:Nat->Int}{T x i:Nat}(hx:x<n)(h:x+i*n<T):(mix n V T x i).set (x+i*n) (V (x+i*n))=mix n V T x (i+1):=by
 have hb:=lR (n:=n) (W:=fun _=>[]) (k:=i) hx;have:=tA (F:=fun j=>if j%n<x\/(j%n=x/\j/n<i) then V j else 0) (G:=fun j=>if j%n<x\/(j%n=x/\j/n<i+1) then V j else 0) h (fun j _ hj=>by
  by_cases h1:j%n<x\/(j%n=x/\j/n<i)
  ·rw[if_pos h1,if_pos byO]
  ·rw[if_neg h1,if_neg]
   rintro(h2|⟨h2,h3⟩)
   ·exact h1 (.inl h2)
   ·by_cases h4:j/n=i
    ·apply hj
     have:=Nat.div_add_mod j n;rw[h2,h4,ba₀]at this;omega
    ·exact h1 (.inr ⟨h2,byO⟩))
 rw[hb.1,hb.2,if_pos (.inr ⟨rfl,byO⟩)]at this;exact this
theorem GY{V:Nat->Int}{T:Nat}(hn:0<n):mix n V T n 0=(List.range T).map V:=by
 unfold mix;exact List.map_congr_left fun j _=>if_pos (.inl (Nat.mod_lt j hn))
theorem ye{z:Dz}(hz:z.Ok){x:Nat}(hx:x<z.n):cnt (z.d+z.c) z.n x=cnt z.d z.n x+z.ck/\0<cnt z.d z.n x/\cnt z.d z.n x+z.ck<=250:=by
 have h1:cnt (z.d+z.c) z.n x=cnt z.d z.n x+z.ck:=by
  have:=FT (N:=z.d) (n:=z.n) (k:=z.ck) hx;rw[<-hz.cn]at this;exact this
 refine⟨h1,(eC hx).2 (by have:=hz.dn;omega),?_⟩;rw[<-h1];apply Nat.le_of_not_lt;intro h;rw[eC hx]at h;have:=hz.all;omega
theorem Cm{s:Sz}{l:List Int}{n:Int}(h:iz s l n=0):s ∈ szs/\(l.length:Int)=n/\inF 256 l=true:=by
 unfold iz at h;split at h
 ·simp at h
 ·rename_i h1
  split at h
  ·simp at h
  ·rename_i h2
   split at h
   ·rename_i h3
    exact⟨Decidable.not_not.1 h1,Decidable.not_not.1 h2,h3⟩
   ·simp at h
theorem yl{s:Sz}{l:List Int}{n:Int}(h1:s ∈ szs)(h2:(l.length:Int)=n)(h3:inF 256 l=true):iz s l n=0:=by
 unfold iz;rw[if_neg (fun h=>h h1),if_neg (fun h=>h h2),if_pos h3]
theorem pV{i j:Nat}(hi:i<30)(hj:j<30)(h:(dz i).sz=(dz j).sz):dz i=dz j:=by
 have:∀i,i<30->∀j,j<30->(dz i).sz=(dz j).sz->i=j:=by decide +kernel
 rw[this i hi j hj h]
section
variable {lo:Nat}{H:Heap}{s:Sz}
namespace XYf
def xtr:=zzi @Int.cast_ofNat_Int (zzi @ite_self.{1} @Sz.cells.eq_1)
end XYf
open XYf
end
open Go.Abs Go.RS
def DH(Q:bz):bz:=fun ex S' H'=>match ex with | .exit j=>if bC<=j then ∃(_:Nat),False else Q (.exit j) S' H'|ex=>Q ex S' H'
theorem AP{lo:Nat}{b alts:Stm}{cf:CF}{R:Value->Heap->Prop}{S:List Value}{H:Heap}(h:wpS cp lo b (eP cf R) S H):wpS cp lo (.scope b alts) (eP cf R) S H:=by
 refine⟨fun _ _ _ _=>False,?_,fun _ _ _ _ h=>h.elim⟩;have e:DH (eP cf R)=eP cf R:=by
  funext ex S H;cases ex<;>simp[DH,eP]
 show wpS cp lo b (DH (eP cf R)) S H;rw[e];exact h
theorem Ay{V:Nat->Int}{T x i:Nat}(hx:x<n)(hi:¬ x+i*n<T):mix n V T x i=mix n V T (x+1) 0:=by
 unfold mix;refine List.map_congr_left fun j hj=>?_;have hj:=List.mem_range.1 hj;by_cases h:j%n<x\/(j%n=x/\j/n<i)
 ·rw[if_pos h,if_pos byO]
 ·rw[if_neg h,if_neg]
  rintro(h2|h2)
  ·by_cases h3:j%n=x
   ·apply hi
    have h4:i<=j/n:=by
     apply Nat.le_of_not_lt;intro h5;exact h (.inr ⟨h3,h5⟩)
    have h5:=Nat.mul_le_mul_left n h4;have:=Nat.div_add_mod j n;rw[h3]at this;rw[ba₀ i n];omega
   ·exact h (.inl byO)
  ·exact absurd h2.2 (Nat.not_lt_zero _)
def kJ(s:Sz):Int:=IntKind.i64.wrap (s.d+s.k)
theorem ng{i:Nat}(hi:i<30):kJ (dz i).sz=(((dz i).d+(dz i).c:Nat):Int):=by
 have hz:=oa hi;have:=hz.d2;have:=hz.c2;show IntKind.i64.wrap (((dz i).d:Int)+((dz i).c:Int))=_;rw[eX byO byO];omega
def tQ(s:Sz)(l:List Int)(N:Nat)(H:Heap)(r:Value):Prop:=
 (iz s l (kJ s)≠0->r=.tuple #[.slice none 0 0,.int .i64 0,.int .i64 (iz s l (kJ s))]) /\
 (∀i,i<30->s=(dz i).sz->l.length=(dz i).d+(dz i).c->inF 256 l=true ->
  ((¬ ∀x,x<(dz i).n->OkX (dz i) l x)->r=.tuple #[.slice none 0 0,.int .i64 0,.int .i64 17]) /\
  ((∀x,x<(dz i).n->OkX (dz i) l x)->∃b,N<=b/\r=.tuple #[.slice (some ⟨b,0,none⟩) (dz i).d (dz i).d,.int .i64 (fW (nch (dz i) l) (dz i).n:Nat),.int .i64 0]/\H.get b=some (bN (ilv (dz i).n (fxX (dz i) l) (dz i).d))))
section
variable {lo:Nat}{H:Heap}{s:Sz}
open XYf
set_option maxHeartbeats 1000000 in
theorem CT{v:Value}{l:List Int}(hl:SlI H v l)(hll:l.length<=1000000000)(hlo:lo<=H.length):Ev cp lo 16 [v,s.val] H (fun r H'=>Ext H H'/\tQ s l H.length H' r):=by
 have hl0:=hl;obtain⟨ad,c,rfl⟩:=hl.len;refine stG rfl rfl ?_;unfold Mn;simp only[kB,aB];refine aC ?_;refine AP ?_;have hws:IntKind.i64.wrap (s.d+s.k)=kJ s:=rfl;(try simp only[aB]);generalize hG:H++_=G at *;obtain⟨g0,hxG⟩:=bV hG;clear hG;have hlG:=hxG.1;refine aQ ?_;refine aA (KX (s:=s) (n:=kJ s) (hl.mono hxG) hll byO) ?_;rintro r H1 ⟨hx1,rfl⟩;clear hws;have g0:=hx1.get g0;have hx1:=hxG.trans hx1;have hl1:=hx1.1;refine aC ?_;by_cases he:iz s l (kJ s)=0
 case neg=>
  have hg:tQ s l H.length H1 (.tuple #[.slice none 0 0,.int .i64 0,.int .i64 (iz s l (kJ s))]):=by
   refine⟨fun _=>rfl,fun i hi hs hle hin=>absurd (yl (ll.2 ⟨i,hi,hs⟩) ?_ hin) he⟩;rw[hs,hle,ng hi]
  generalize iz s l (kJ s)=ee at *;refine aS ?_ ?_<;>intro h
  case refine_2=>exfalso;simp at h;exact he h
  clear h;refine aC ?_;refine aT ?_;exact⟨hx1,hg⟩
 obtain⟨hs,hln,hin⟩:=Cm he;obtain⟨i0,hi0,hs0⟩:=ll.1 hs;rw[he];subst hs0;have hgB:(¬ ∀x,x<(dz i0).n->OkX (dz i0) l x)->∀{H':Heap},tQ (dz i0).sz l H.length H' (.tuple #[.slice none 0 0,.int .i64 0,.int .i64 17]):=by
  intro hno H';refine⟨fun h=>absurd he h,fun i hi hs _ _=>?_⟩;rw[<-pV hi0 hi hs];exact⟨fun _=>rfl,fun h=>absurd h hno⟩
 have hg:(∀x,x<(dz i0).n->OkX (dz i0) l x)->∀{H':Heap} {b:Nat},H.length<=b->Heap.get H' b=some (bN (ilv (dz i0).n (fxX (dz i0) l) (dz i0).d))->tQ (dz i0).sz l H.length H' (.tuple #[.slice (some ⟨b,0,none⟩) (dz i0).d (dz i0).d,.int .i64 (fW (nch (dz i0) l) (dz i0).n:Nat),.int .i64 0]):=by
  intro hok H' b hb hh;refine⟨fun h=>absurd he h,fun i hi hs _ _=>?_⟩;rw[<-pV hi0 hi hs];exact⟨fun h=>absurd hok h,fun _=>⟨b,hb,rfl,hh⟩⟩
 have hcode:=fun {H:Heap} {lo:Nat} (h:lo<=H.length)=>Nm (H:=H) hi0 h;have hz:=oa hi0;rw[ng hi0]at hln;clear he hs;generalize dz i0=zz at *;have hlz:l.length=zz.d+zz.c:=by
  omega
 clear hln;have n1:=hz.n1;have n2:=hz.n2;have dn:=hz.dn;have d2:=hz.d2;have c2:=hz.c2;have k1:=hz.k1;have k2:=hz.k2;have hca:∀x,x<zz.n->(cnt l.length zz.n x<=cnt zz.d zz.n x+zz.ck/\cnt zz.d zz.n x+zz.ck<=cnt l.length zz.n x)/\0<cnt zz.d zz.n x/\cnt zz.d zz.n x+zz.ck<=250:=fun x hx=>by
  have:=ye hz hx;rw[<-hlz]at this;omega
 clear hz;replace hlz:l.length<=zz.d+zz.c/\zz.d+zz.c<=l.length:=byO;unfold Dz.sz Sz.val at *;simp only[Sz.cells]at *;refine aS ?_ ?_<;>intro h
 ·cases h
 clear h;(try simp only[aB]);refine aQ ?_;refine aA (hcode byO) ?_;rintro r H2 ⟨hx2,rfl⟩;have g0:=hx2.get g0;have hq2:=Heap.get_lt g0;have hx2:=hx1.trans hx2;have hl2:=hx2.1;clear hcode;unfold cdV;refine aC ?_;generalize hG:H2++_=G1 at *;obtain⟨gc,hxG1⟩:=bV hG;clear hG;have g0:=hxG1.get g0;have hxc:=hx2.trans hxG1;have hlc:=hxc.1;have hlt0:=Heap.get_lt gc;refine aS ?_ ?_<;>intro h
 ·cases h
 clear h;refine aC ?_;generalize hG:G1++_=G2 at *;obtain⟨gt,hxG2⟩:=bV hG;clear hG;generalize hV:(fun j=>(((co (fxX zz l (j%zz.n)) (j/zz.n)).val:Nat):Int))=V at *;have gt:Heap.get G2 G1.length=some (bN (mix zz.n V zz.d 0 0)):=by
  rw[gt,OT]
 have g0:=hxG2.get g0;have gc:=hxG2.get gc;have hxd:=hxc.trans hxG2;have hltt:=Heap.get_lt gt;have hsb:∀x,x<=zz.n->fW (nch zz l) x<=x*250:=by
  intro x
  induction x with
  | zero=>intro _;simp[fW]
  | succ x ih=>
   intro hx;have h1:=ih byO;have h2:=uK zz l x;have h3:=hca x byO;rw[fW,Nat.succ_mul];omega
 refine aa (fun x S H'=>Keep G1.length G2 H'/\Heap.get H' G1.length=some (bN (mix zz.n V zz.d x 0))/\(∀y,y<x->OkX zz l y)/\∃(z:Nat->Value),S=[.slice ad l.length c,z 1,.pointer (some ⟨H.length,0,none⟩),z 3,z 4,z 5,z 6,.pointer (some ⟨H2.length,0,none⟩),z 8,.slice (some ⟨G1.length,0,none⟩) zz.d zz.d,.int .i64 (fW (nch zz l) x:Nat),z 11,z 12,z 13,z 14,z 15,z 16,z 17,z 18,z 19,z 20,z 21,.int .i64 (zz.n:Nat),.int .i64 (x:Nat),z 24,z 25,z 26,z 27,z 28,z 29,z 30,z 31]) zz.n ?_ ?_ ?_ ?_
 ·exact⟨dQ (Ext.refl _),gt,byO,aR rfl⟩
 ·rintro x S H' hx ⟨-,-,-,z,rfl⟩
  exact⟨_,aW,by simp⟩
 ·clear gt
  rintro x S H3 hx ⟨q1,gt,hw,z,rfl⟩;obtain⟨ca,cb,cc⟩:=hca x hx;have g0:=q1.get g0 byO;have gc:=q1.get gc byO;have hx3:=q1.ext hxd byO;have hl3:=hx3.1;have hsl:=hl0.mono hx3;have hq3:=q1.len;have hsx:=hsb x byO;have hsy:=hsb (x+1) byO;rw[fW]at hsy;refine aC ?_;refine aQ ?_;refine aN (KR (n:=zz.n) (x:=x) hsl hll hx byO (Nat.le_refl _)) ?_;rintro r H4 ⟨hx4,hr⟩;rw[<-AI hin]at hr;have hr:SlE H4 r (wdE zz l x):=zu hr;have hwl:=pW zz l x;replace hwl:(wdE zz l x).length<=cnt l.length zz.n x/\cnt l.length zz.n x<=(wdE zz l x).length:=byO;have gt:=hx4.get gt;have g0:=hx4.get g0;have gc:=hx4.get gc;have hq4:=hx4.1;have hnl:=uK zz l x;(try simp only[aB]);refine aQ ?_;refine fV (first:=#[]) (cap:=#[]) (args:=[cdV (fB 301) zz.ck 1,r,.slice none 0 0]) (Cb (f:=F1) (g:=g1) (w:=wdE zz l x) (e:=[]) byO JQ (JG byO byO) hr byO (.inl ⟨rfl,rfl⟩) (by simp)) ?_;rintro r2 H5 ⟨hx5,-,-,hbad,hgood⟩;have hin0:inR (wdE zz l x).length []:=fun _ h=>by simp at h
  replace hbad:=hbad hin0 byO (by show _<256;omega);replace hgood:=hgood hin0 byO (by show _<256;omega);have gt:=hx5.get gt;have g0:=hx5.get g0;have gc:=hx5.get gc;have hq5:=hx5.1;by_cases hok:OkX zz l x
  case neg=>
   rw[hbad hok];clear hbad hgood;unfold nr;have hxx:=(hx3.trans hx4).trans hx5;have hgB:=@hgB (fun h=>hok (h x hx));refine aC ?_;refine aS ?_ ?_<;>intro h
   case refine_2=>exfalso;simp at h
   clear h;refine aC ?_;refine aT ?_;exact⟨hxx.trans (Ext.app _ _),hgB⟩
  obtain⟨vw,vc,rfl,hvw,hvc,hnew,-⟩:=hgood hok;clear hbad hgood;replace hvw:SlE H5 vw (fxX zz l x):=hvw;have hfl:=yz zz l x;have hvw0:=hvw;obtain⟨aw,cw,ew⟩:=hvw.len;rw[hfl]at ew;subst ew;replace hfl:(fxX zz l x).length<=cnt l.length zz.n x/\cnt l.length zz.n x<=(fxX zz l x).length:=byO;obtain⟨ac,kc,ec⟩:=hvc.len;replace ec:vc=.slice ac (nch zz l x) kc:=ec;subst ec;clear hvc hvw hr;refine aC ?_;generalize hG:H5++_=H6 at *;obtain⟨gr,hxr⟩:=bV hG;clear hG;have hvw0:=hvw0.mono hxr;have gt:=hxr.get gt;have g0:=hxr.get g0;have gc:=hxr.get gc;have hq6:=hxr.1;refine aS ?_ ?_<;>intro h
  ·cases h
  clear h;refine aC ?_;clear gr;refine aa (fun i S H'=>Keep G1.length H6 H'/\Heap.get H' G1.length=some (bN (mix zz.n V zz.d x i))/\i<=cnt zz.d zz.n x/\∃(z:Nat->Value),S=[.slice ad l.length c,z 1,.pointer (some ⟨H.length,0,none⟩),z 3,z 4,z 5,z 6,.pointer (some ⟨H2.length,0,none⟩),z 8,.slice (some ⟨G1.length,0,none⟩) zz.d zz.d,.int .i64 (fW (nch zz l) x+nch zz l x:Nat),.int .i64 (x:Nat),z 12,z 13,z 14,z 15,z 16,z 17,z 18,z 19,z 20,z 21,.int .i64 (zz.n:Nat),.int .i64 (x:Nat),z 24,z 25,z 26,z 27,z 28,.slice aw (cnt l.length zz.n x) cw,.int .i64 (cnt l.length zz.n x:Nat),.int .i64 (i:Nat)]) (cnt l.length zz.n x) ?_ ?_ ?_ ?_
  ·exact⟨dQ (Ext.refl _),gt,Nat.zero_le _,aR ncM⟩
  ·rintro i S H' hi ⟨-,-,-,z,rfl⟩
   exact⟨_,aW,by simp⟩
  ·clear gt
   rintro i S H7 hi ⟨q6,gt,hic,z,rfl⟩;have g0:=q6.get g0 byO;have hq7:=q6.len;obtain⟨bw,ow,spw,cw2,xw,e6,gx,hat,hxl⟩:=dV (eE hvw0 hnew q6 byO) byO;rw[show(fxX zz l x).length=cnt l.length zz.n x by omega]at e6;cases e6;have hati:=hat i byO;have hml:=GZ zz.n V zz.d x i;have hl6:=Heap.get_lt gt;have hp1:((x:Nat):Int)+(i:Int)*(zz.n:Int)=((x+i*zz.n:Nat):Int):=by rw[ap₀,Int.natCast_mul]
   have hpb:x+i*zz.n<3000:=by
    have h1:=(eC hx).1 hi;omega
   clear hat;by_cases hi2:i<cnt zz.d zz.n x
   ·have hp:=(eC hx).1 hi2
    have hms:=G0 (V:=V) hx hp;have hVp:V (x+i*zz.n)=((((fxX zz l x).getD i 0).val:Nat):Int):=by
     rw[<-hV];have:=lR (n:=zz.n) (W:=fun _=>[]) (k:=i) hx;simp only[this.1,this.2];rfl
    rw[hVp]at hms;have hco:co (fxX zz l x) i=(fxX zz l x).getD i 0:=rfl;rw[hco]at hati;clear hVp hco;generalize x+i*zz.n=p at *;generalize ((((fxX zz l x).getD i 0).val:Nat):Int)=y at *;generalize mix zz.n V zz.d x i=M at *;generalize mix zz.n V zz.d x (i+1)=M' at *;refine aC ?_;refine aS ?_ ?_<;>intro h
    ·exfalso;simp at h;omega
    clear h;refine aC ?_;refine⟨iN q6 _,?_,byO,aR ncM⟩;rw[aF byO]
   ·have hp:¬ x+i*zz.n<zz.d:=fun h=>hi2 ((eC hx).2 h)
    rw[Ay hx hp]at gt;have q7:=dB q1 (dB (dQ ((hx4.trans hx5).trans hxr)) q6);clear hml;generalize x+i*zz.n=p at *;refine aC ?_;refine aS ?_ ?_<;>intro h
    case refine_2=>exfalso;simp at h;omega
    clear h;refine aC ?_;(repeat (first|rw[if_neg (by decide)]|simp only[E0,zO,Dd]|rw[kT]));refine aC ?_;refine⟨q7,gt,fun y hy=>?_,aR ncM⟩;by_cases e2:y=x
    ·rw[e2];exact hok
    ·exact hw y byO
  ·rintro S H7 ⟨-,-,hic,-⟩
   omega
 ·clear gt
  rintro S H3 ⟨q1,gt,hw,z,rfl⟩;rw[GY byO,<-hV]at gt;refine aC ?_;refine aT ?_;exact⟨q1.ext hxd byO,hg hw byO gt⟩
end
theorem zn{φ ψ:Nat->Bool}{k:Nat}(hk:ψ k=true)(hk0:φ k=false)(h:∀i,i≠k->ψ i=φ i):∀N,(sel ψ N).length=(sel φ N).length+if k<N then 1 else 0
 | 0=>rfl
 | N+1=>by
  have ih:=zn hk hk0 h N;rw[ba,ba,as₀,as₀,ih];by_cases e:N=k
  ·subst e
   rw[hk,hk0];simp
  ·rw[h N e]
   have e3:k<N+1↔k<N:=byO;simp only[e3];omega
theorem ny{α:Type}{l:List α}{i j:Nat}{v d:α}(h:i<l.length):(l.set i v).getD j d=if j=i then v else l.getD j d:=by
 rw[au₀,List.getElem?_set];by_cases e:j=i
 ·rw[if_pos e.symm,if_pos h,if_pos e];rfl
 ·rw[if_neg (Ne.symm e),if_neg e,<-au₀]
theorem DE{α:Type}{n i:Nat}{a:α}:(List.replicate n a).getD i a=a:=by
 rw[au₀,List.getElem?_replicate];split<;>rfl
def dfX(n:Nat)(wl out:List Int)(x:Nat):Nat:=(sel (fun k=>decide (out.getD (x+k*n) 0≠wl.getD (x+k*n) 0)) (cnt wl.length n x)).length
def dfA(wl out:List Int):Nat:=(sel (fun j=>decide (out.getD j 0≠wl.getD j 0)) wl.length).length
theorem uI(j n:Nat):j%n+j/n*n=j:=by rw[ba₀];have:=Nat.div_add_mod j n;omega
theorem Cf(hn:0<n)(wl out:List Int):fW (dfX n wl out) n=dfA wl out:=by
 refine(rJ hn (fun x k=>decide (out.getD (x+k*n) 0≠wl.getD (x+k*n) 0)) wl.length).trans ?_;unfold dfA;exact congrArg List.length (oO fun j _=>by simp only[uI])
theorem F4(hn:0<n){wl out:List Int}{j:Nat}{v:Int}(hj:j<wl.length)(hl:out.length=wl.length)(h0:out.getD j 0=wl.getD j 0)(hv:v≠wl.getD j 0){x:Nat}(hx:x<n):dfX n wl (out.set j v) x=if x=j%n then dfX n wl out x+1 else dfX n wl out x:=by
 have hg:∀i,(out.set j v).getD i 0=if i=j then v else out.getD i 0:=fun i=>ny byO
 unfold dfX;by_cases e:x=j%n
 ·subst e
  rw[if_pos rfl,zn (k:=j/n) (φ:=fun k=>decide (out.getD (j%n+k*n) 0≠wl.getD (j%n+k*n) 0)) (ψ:=fun k=>decide ((out.set j v).getD (j%n+k*n) 0≠wl.getD (j%n+k*n) 0)) ?_ ?_ ?_,if_pos (qD hn hj)]
  ·simp only[uI,hg,if_pos rfl]
   exact decide_eq_true hv
  ·simp only[uI]
   exact decide_eq_false (fun h=>h h0)
  ·intro i hi
   simp only[hg];rw[if_neg];intro h;have:=(lR (n:=n) (W:=fun _=>[]) (k:=i) hx).2;rw[h]at this;exact hi this.symm
 ·rw[if_neg e]
  exact congrArg List.length (oO fun i _=>by
   simp only[hg];rw[if_neg];intro h;have:=(lR (n:=n) (W:=fun _=>[]) (k:=i) hx).1;rw[h]at this;exact e this.symm)
theorem Ce{wl:List Int}{x:Nat}:dfX n wl wl x=0:=by
 unfold dfX sel;rw[List.filter_eq_nil_iff.2 (fun i _=>by simp)];rfl
structure SpI (n ck:Nat)(wl out us:List Int):Prop where
 lo:out.length=wl.length
 lu:us.length=n
 by':∀i,i<wl.length->0<=out.getD i 0/\out.getD i 0<=255
 us':∀x,x<n->us.getD x 0=((dfX n wl out x:Nat):Int)/\2*dfX n wl out x<=ck
theorem SpI.start{n ck:Nat}{wl:List Int}(hb:∀i,i<wl.length->0<=wl.getD i 0/\wl.getD i 0<=255):SpI n ck wl wl (List.replicate n 0):=
 ⟨rfl,by simp,hb,fun x hx=>by rw[DE,Ce];exact⟨rfl,Nat.zero_le _⟩⟩
theorem SpI.step{n ck:Nat}(hn:0<n){wl out us:List Int}{j:Nat}{v:Int}(h:SpI n ck wl out us)(hj:j<wl.length)(h0:out.getD j 0=wl.getD j 0)(hv:v≠wl.getD j 0)(hb:0<=v/\v<=255)(hc:2*us.getD (j%n) 0+2<=(ck:Int)) :
  SpI n ck wl (out.set j v) (us.set (j%n) (us.getD (j%n) 0+1))/\dfA wl (out.set j v)=dfA wl out+1:=by
 obtain⟨h1,h2,h3,h4⟩:=h;have hm:=Nat.mod_lt j hn;have hd:=fun x (hx:x<n)=>F4 hn hj h1 h0 hv hx;refine⟨⟨by simpa using h1,by simpa using h2,fun i hi=>?_,fun x hx=>?_⟩,?_⟩
 ·rw[ny byO]
  split
  ·exact hb
  ·exact h3 i hi
 ·obtain⟨u1,u2⟩:=h4 x hx
  rw[ny byO,hd x hx];by_cases e:x=j%n
  ·subst e
   rw[if_pos rfl,if_pos rfl];omega
  ·rw[if_neg e,if_neg e];exact⟨u1,u2⟩
 ·rw[<-Cf hn,<-Cf hn,oQ hd,if_pos hm]
end Go.Proofs.YtmnlgdpdgjbfgaaGreat
