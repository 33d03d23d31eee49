/- Lemmas. -/
import Derived.Test.YtmnlgdpdgjbfgaaGreatL12
import Derived.Test.YtmnlgdpdgjbfgaaGreatL19
import Derived.Test.YtmnlgdpdgjbfgaaGreatL22
set_option linter.all false
namespace Go.Proofs.YtmnlgdpdgjbfgaaGreat
open Go.Abs Go.RS
variable{i:Nat}
set_option maxRecDepth 20000
def oT(s:Sz)(l:List Int)(n:Int):Int:=if ¬ s ∈ szs then 14 else if (l.length:Int)≠n then 7 else if inF 256 l=true then 0 else 3
section
variable {lo:Nat}{H:Heap}{s:Sz}
theorem Fz{l:List Int}(hi:i<l.length)(h:inF 256 l=true):0<=l.getD i 0/\l.getD i 0<=255:=by
 have:=(jF (sz:=256)).1 h (l.getD i 0) (by rw[au₀,bb₀ hi];exact List.getElem_mem hi);omega
theorem Dp{l:List Int}(hi:i<l.length)(hin:inF 256 (l.take i)=true)(h0:0<=l.getD i 0)(h1:l.getD i 0<=255):inF 256 (l.take (i+1))=true:=by
 have hs:=ft (p:=fun x=>!(decide (x<0) || decide ((256:Int)<=x))) hi;unfold inF at hin ⊢;rw[hs,hin];simp only[Bool.true_and,Bool.not_eq_true',Bool.or_eq_false_iff,ai₀];omega
namespace XYd
def xtr:=zzi @Int.cast_ofNat_Int (zzi @fv.eq_1 (zzi @fvf.eq_1 (zzi @ite_self.{1} (zzi @lA (zzi @kz (zzi @ky (zzi @cdC.eq_1 (zzi @arC.eq_1 @Sz.cells.eq_1))))))))
end XYd
open XYd
theorem LS{v:Value}{l:List Int}{n:Int}(hl:SlI H v l)(hll:l.length<=1000000000)(hlo:lo<=H.length):Ev cp lo 27 [v,s.val,.int .i64 n] H (fun r H'=>Ext H H'/\r=.int .i64 (oT s l n)):=by
 have hl0:=hl;obtain⟨ad,c,rfl⟩:=hl.len;refine stG rfl rfl ?_;unfold Nm;simp only[kB,aC];refine aL ?_;generalize hG:H++_=G at *;obtain⟨g0,hxG⟩:=fZ hG;clear hG;have hlG:=hxG.1;refine bY ?_;refine cU (NS (Nat.le_refl _)) ?_;rintro r H1 ⟨j,hj,rfl,hg,hx1⟩;have g0:=hx1.get g0;have hx1:=hxG.trans hx1;(try simp only[aC]);refine bY ?_;refine fD (first:=#[]) (cap:=#[]) (args:=[.slice (some ⟨j,0,none⟩) 30 30,s.val]) (contains (s:=s) hg) ?_;rintro r H2 ⟨hx2,rfl⟩;have hx2:=hx1.trans hx2;clear hg hj hx1 g0;have hl2:=hx2.1;(try simp only[aC]);by_cases hs:s ∈ szs
 case neg=>
  have he:oT s l n=14:=if_pos hs;rw[he];refine bQ ?_ ?_<;>intro h
  case refine_2=>exfalso;simp[hs]at h
  clear h;refine aL ?_;refine bU ?_;exact⟨hx2,rfl⟩
 have he:oT s l n=if (l.length:Int)≠n then 7 else if inF 256 l=true then 0 else 3:=if_neg (fun h=>h hs)
 rw[he];clear he;refine bQ ?_ ?_<;>intro h
 ·exfalso;simp[hs]at h
 clear h;(try simp only[aC]);by_cases hn:(l.length:Int)=n
 case neg=>
  rw[if_pos hn];refine bQ ?_ ?_<;>intro h
  case refine_2=>exfalso;simp at h;exact hn h
  clear h;refine aL ?_;refine bU ?_;exact⟨hx2,rfl⟩
 rw[if_neg (fun h=>h hn)];subst hn;refine bQ ?_ ?_<;>intro h
 ·simp at h
 clear h;refine aL ?_;refine aa (fun i S H'=>H2=H'/\inF 256 (l.take i)=true/\∃(z:Nat->Value),S=[z 0,z 1,z 2,z 3,z 4,z 5,z 6,z 7,z 8,.slice ad l.length c,.int .i64 (l.length:Nat),.int .i64 (i:Nat)]) l.length ?_ ?_ ?_ ?_
 ·exact⟨rfl,rfl,aJ rfl⟩
 ·rintro i S H' hi ⟨rfl,-,z,rfl⟩
  exact⟨_,bJ,by simp⟩
 ·rintro i S H' hi ⟨rfl,hin,z,rfl⟩
  obtain⟨b,o,sp,cap,xs,e,gx,hat,hxl⟩:=(hl0.mono hx2).els 0 byO;cases e;have hati:=hat i hi;have hok:=Dp hi hin;clear hat;refine aL ?_;by_cases hb:0<=l.getD i 0/\l.getD i 0<=255
  ·replace hok:=hok hb.1 hb.2
   generalize l.getD i 0=y at *;refine bQ ?_ ?_<;>intro h
   ·exfalso;simp at h;omega
   clear h;refine aL ?_;exact⟨by trivial,hok,aJ ncM⟩
  ·have hno:¬ inF 256 l=true:=fun h=>hb (Fz hi h)
   rw[if_neg hno];clear hok hin hno;generalize l.getD i 0=y at *;refine bQ ?_ ?_<;>intro h
   case refine_2=>exfalso;simp at h;omega
   clear h;refine aL ?_;refine bU ?_;exact⟨hx2,rfl⟩
 ·rintro S H' ⟨rfl,hin,z,rfl⟩
  rw[List.take_of_length_le (Nat.le_refl _)]at hin;rw[if_pos hin];refine aL ?_;refine bU ?_;exact⟨hx2,rfl⟩
theorem GG(hlo:lo<=H.length):Ev cp lo 56 [.int .i64 8,.int .i64 301] H (fun r H'=>Ext H H'/\r=.tuple #[fv 2 256 301,.int .i64 0]):=by
 have hsh:IntKind.i64.wrap (1*2^(min (8:Int).toNat IntKind.i64.bits))=256:=by decide
 refine stG rfl rfl ?_;unfold Ny;simp only[kB,aC];refine aL ?_;refine bQ ?_ ?_<;>intro h
 ·simp at h
 clear h;refine aL ?_;generalize hG:H++_=G at *;obtain⟨g0,hxG⟩:=fZ hG;have g1:Heap.get G (H.length+1)=some [Value.int .i64 2,Value.int .i64 256,Value.int .i64 301]:=by rw[<-hG,bL];rfl
 clear hG;refine bY ?_;refine aB (valid (ch:=2) (sz:=256) (po:=301) (by decide)) ?_;rintro r H1 ⟨hx1,t,rfl,ht⟩;have htt:t=true:=ht.2 ⟨_,E6⟩;subst htt;clear ht;have g0:=(hx1).get g0;have g1:=(hx1).get g1;have hx1:=hxG.trans hx1;have hl1:=Heap.get_lt g1;(try simp only[aC]);refine bQ ?_ ?_<;>intro h
 ·cases h
 clear h;refine aL ?_;refine bU ?_;exact⟨hx1.set byO,rfl⟩
end
open XYd
section
variable {lo:Nat}{H:Heap}
theorem O1(hi:i<30)(hlo:lo<=H.length):Ev cp lo 28 [(dz i).sz.val] H (fun r H'=>Ext H H'/\r=.tuple #[cdV (fB 301) (dz i).ck 1,.int .i64 0]):=by
 have hz:=zd hi;generalize dz i=z at *;obtain⟨n1,n2,dn,d2,c2,-,k1,k2,al⟩:=hz;have hok:xe 2 256 301 (z.ck:Nat) 1:=⟨⟨_,E6⟩,byO,byO,byO,byO⟩;have hdiv:(z.c:Int).tdiv (z.n:Int)=(z.ck:Nat):=(Int.ofNat_tdiv z.c z.n).symm;unfold Dz.sz Sz.val;refine stG rfl rfl ?_;unfold Nn;simp only[kB,aC];refine aL ?_;generalize hG:H++_=G at *;obtain⟨g0,hxG⟩:=fZ hG;have g1:Heap.get G (H.length+1)=some (List.replicate 5 (Value.int .i64 0)):=by rw[<-hG,bL];rfl
 clear hG;have hlG:=Heap.get_lt g1;refine bY ?_;refine aB (GG byO) ?_;rintro r H1 ⟨hx1,rfl⟩;have g0:=(hx1).get g0;have g1:=(hx1).get g1;have hx1:=hxG.trans hx1;have hl1:=Heap.get_lt g1;unfold fv;refine aL ?_;generalize hG:H1++_=G1 at *;obtain⟨g2,hxG1⟩:=fZ hG;clear hG;have g0:=(hxG1).get g0;have g1:=(hxG1).get g1;have hx2:=hx1.trans hxG1;have hl2:=hx2.1;refine bQ ?_ ?_<;>intro h
 ·cases h
 clear h;(try simp only[aC]);refine bY ?_;refine fD (first:=#[]) (cap:=#[]) (args:=[fv 2 256 301,.int .i64 (z.ck:Nat),.int .i64 1]) (Rv (ch:=2) (sz:=256) (po:=301) (r:=(z.ck:Nat)) (b:=1) byO byO) ?_;rintro r H3 ⟨hx3,-,-,hv⟩;rw[hv hok];clear hv;have g0:=(hx3).get g0;have g1:=(hx3).get g1;have hx3:=hx2.trans hx3;have hl3:=Heap.get_lt g1;unfold cdI;refine aL ?_;refine bU ?_;exact⟨hx3.set byO,rfl⟩
theorem CI{l:List Int}{n x k:Nat}(hx:x<n)(hk:k<cnt l.length n x):(jZ l 0 n x).take (k+1)=(jZ l 0 n x).take k++[l.getD (x+k*n) 0]:=by
 rw[List.take_add_one];congr 1;unfold jZ;rw[az₀,List.getElem?_range hk];rfl
end
end Go.Proofs.YtmnlgdpdgjbfgaaGreat
namespace Go.Proofs.YtmnlgdpdgjbfgaaGreat
open Go.Abs Go.RS
variable{v:Value}{p:List UInt8}{n:Nat}
section
variable {lo:Nat}{H:Heap}
theorem step_eq(x k n:Nat):((x+k*n:Nat):Int)+(n:Nat)=((x+(k+1)*n:Nat):Int):=by
 have:=Nat.succ_mul k n;rw[show(k+1)*n=k*n+n from this];omega
theorem GS{N n x:Nat}(hx:x<n):cnt N n x<=N:=by
 apply Nat.le_of_not_lt;intro h;rw[ml hx]at h;have:=Nat.le_mul_of_pos_right N (show 0<n by omega);omega
namespace XYe
def xtr:=zzi @Int.cast_ofNat_Int @ite_self.{1}
end XYe
open XYe
theorem LJ{l:List Int}{n x:Nat}(hl:SlI H v l)(hll:l.length<=1000000000)(hx:x<n)(hn:n<=1000)(hlo:lo<=H.length):Ev cp lo 30 [v,.int .i64 (n:Nat),.int .i64 (x:Nat)] H (fun r H'=>Ext H H'/\SlI H' r (jZ l 0 n x)):=by
 have hl0:=hl;obtain⟨ad,c,rfl⟩:=hl.len;refine stG rfl rfl ?_;unfold Np;simp only[kB,aC];refine aL ?_;have e0:((x:Nat):Int)=((x+0*n:Nat):Int):=by simp
 refine aa (fun k S H'=>Ext H H'/\∃(vo:Value) (bo:Nat),Own H.length 1 H' vo bo (ah ((jZ l 0 n x).take k))/\∃(z:Nat->Value),S=[.slice ad l.length c,.int .i64 (n:Nat),z 2,z 3,vo,.int .i64 (x+k*n:Nat),z 6,z 7,z 8]) (cnt l.length n x) ?_ ?_ ?_ ?_
 ·exact⟨Ext.refl _,_,_,Own.nil (Nat.le_refl _),aJ (by simp only[Nat.zero_mul,Nat.add_zero];rfl)⟩
 ·rintro k S H' hk ⟨hx1,vo,bo,-,z,rfl⟩
  exact⟨_,bJ,by rw[ml hx];simp only[af₀];omega⟩
 ·rintro k S H2 hk ⟨hx2,vo,bo,oo,z,rfl⟩
  have hl2:=hx2.1;have hkl:=(ml hx).1 hk;have hcl:((jZ l 0 n x).take k).length<=1000000000:=by
   rw[List.length_take,sD];have:=GS (N:=l.length) hx;omega
  have hsn:=CI (l:=l) hx hk;have hse:=step_eq x k n;obtain⟨xb,xo,xsp,xc,xs,e1,g1,f1,_⟩:=(hl0.mono hx2).els 0 byO;cases e1;have k1:=f1 _ hkl;have hxg:=Heap.get_lt g1;clear f1 e0;rw[hsn];clear hsn;generalize (jZ l 0 n x).take k=acc at *;generalize x+k*n=p at *;generalize x+(k+1)*n=p' at *;generalize l.getD p 0=y at *;replace hse:False\/_:=.inr hse;refine aL ?_;refine bY ?_;refine mD (b:=bo) (cells:=ah acc) (c:=ah [y]) ((oo.mono (Ext.app _ _)).lower byO) (by simp;omega) byO byO (by rw[jc];omega) aG (by simp) rfl rfl ?_;rw[<-qy];intro vo' H3 oo' hk3 hl3;have hx3:=hk3.ext (hx2.trans (Ext.app H2 _)) oo.1;refine aL ?_;exact⟨hx3,vo',_,⟨by simp;omega,oo'.2⟩,aJ (by rw[hse.resolve_left id];rfl)⟩
 ·rintro S H2 ⟨hx2,vo,bo,oo,z,rfl⟩
  rw[List.take_of_length_le (by rw[sD];exact Nat.le_refl _)]at oo;refine aL ?_;refine bU ?_;exact⟨hx2,Sl.ofOwn oo⟩
end
open Go.Abs Go.RS
theorem Bx{n k:Nat}{F G:Nat->Int}(hk:k<n)(h:∀i,i<n->i≠k->G i=F i):((List.range n).map F).set k (G k)=(List.range n).map G:=by
 refine List.ext_getElem (by simp) fun i h1 h2=>?_;rw[List.getElem_set];simp only[List.getElem_map,List.getElem_range];split
 ·rename_i e;rw[e]
 ·rename_i e
  rw[h i (by simpa using h2) (fun e2=>e e2.symm)]
def mix(n:Nat)(V:Nat->Int)(T x i:Nat):List Int:=(List.range T).map fun j=>if j%n<x\/(j%n=x/\j/n<i) then V j else 0
theorem Hg(n:Nat)(V:Nat->Int)(T x i:Nat):(mix n V T x i).length=T:=by simp[mix]
theorem Ox(n:Nat)(V:Nat->Int)(T:Nat):mix n V T 0 0=List.replicate T 0:=by
 unfold mix;rw[List.map_congr_left (g:=fun _=>(0:Int)) (fun j _=>if_neg (fun h=>h.elim (fun h=>absurd h (Nat.not_lt_zero _)) fun h=>absurd h.2 (Nat.not_lt_zero _))),List.map_const',List.length_range]
theorem Hh{V:Nat->Int}{T x i:Nat}(hx:x<n)(h:x+i*n<T):(mix n V T x i).set (x+i*n) (V (x+i*n))=mix n V T x (i+1):=by
 have hb:=zw (n:=n) (W:=fun _=>[]) (k:=i) hx;have:=Bx (F:=fun j=>if j%n<x\/(j%n=x/\j/n<i) then V j else 0) (G:=fun j=>if j%n<x\/(j%n=x/\j/n<i+1) then V j else 0) h (fun j _ hj=>by
  by_cases h1:j%n<x\/(j%n=x/\j/n<i)
  ·rw[if_pos h1,if_pos byO]
  ·rw[if_neg h1,if_neg]
   rintro(h2|⟨h2,h3⟩)
   ·exact h1 (.inl h2)
   ·by_cases h4:j/n=i
    ·apply hj
     have:=Nat.div_add_mod j n;rw[h2,h4,Nat.mul_comm]at this;omega
    ·exact h1 (.inr ⟨h2,byO⟩))
 rw[hb.1,hb.2,if_pos (.inr ⟨rfl,byO⟩)]at this;exact this
theorem EJ{V:Nat->Int}{T x i:Nat}(hx:x<n)(hi:i=cnt T n x):mix n V T x i=mix n V T (x+1) 0:=by
 unfold mix;refine List.map_congr_left fun j hj=>?_;have hj:=List.mem_range.1 hj;have h1:=yJ (N:=T) (n:=n) byO hj;by_cases h:j%n<x\/(j%n=x/\j/n<i)
 ·rw[if_pos h,if_pos byO]
 ·rw[if_neg h,if_neg]
  rintro(h2|h2)
  ·by_cases h3:j%n=x
   ·rw[h3]at h1;exact h (.inr ⟨h3,byO⟩)
   ·exact h (.inl byO)
  ·exact absurd h2.2 (Nat.not_lt_zero _)
theorem Hf{V:Nat->Int}{T:Nat}(hn:0<n):mix n V T n 0=(List.range T).map V:=by
 unfold mix;exact List.map_congr_left fun j _=>if_pos (.inl (Nat.mod_lt j hn))
theorem GR{z:Dz}(hz:z.Ok){x:Nat}(hx:x<z.n):cnt (z.d+z.c) z.n x=cnt z.d z.n x+z.ck/\0<cnt z.d z.n x/\cnt z.d z.n x+z.ck<=250:=by
 have h1:cnt (z.d+z.c) z.n x=cnt z.d z.n x+z.ck:=by
  have:=GQ (N:=z.d) (n:=z.n) (k:=z.ck) hx;rw[<-hz.cn]at this;exact this
 refine⟨h1,(ml hx).2 (by have:=hz.dn;omega),?_⟩;rw[<-h1];apply Nat.le_of_not_lt;intro h;rw[ml hx]at h;have:=hz.all;omega
def xf(s:Sz)(l:List Int)(N:Nat)(H:Heap)(r:Value):Prop:=
 (oT s l s.d≠0->r=.tuple #[.slice none 0 0,.int .i64 (oT s l s.d)]) /\
 (∀i,i<30->s=(dz i).sz->∀e:List (El F1),l=fo e->e.length=(dz i).d->∃b,N<=b/\r=.tuple #[.slice (some ⟨b,0,none⟩) ((dz i).d+(dz i).c) ((dz i).d+(dz i).c),.int .i64 0]/\H.get b=some (ah (ilv (dz i).n ((dz i).W e) ((dz i).d+(dz i).c)))/\∀x,x<(dz i).n->IsEnc g1 (dz i).ck 1 (jZ e 0 (dz i).n x) ((dz i).W e x))
theorem L0{s:Sz}{l:List Int}{n:Int}(h:oT s l n=0):s ∈ szs/\(l.length:Int)=n/\inF 256 l=true:=by
 unfold oT at h;split at h
 ·simp at h
 ·rename_i h1
  split at h
  ·simp at h
  ·rename_i h2
   split at h
   ·rename_i h3
    exact⟨Decidable.not_not.1 h1,Decidable.not_not.1 h2,h3⟩
   ·simp at h
theorem ze{s:Sz}{l:List Int}{n:Int}(h1:s ∈ szs)(h2:(l.length:Int)=n)(h3:inF 256 l=true):oT s l n=0:=by
 unfold oT;rw[if_neg (fun h=>h h1),if_neg (fun h=>h h2),if_pos h3]
theorem Ig{i j:Nat}(hi:i<30)(hj:j<30)(h:(dz i).sz=(dz j).sz):dz i=dz j:=by
 have:∀i,i<30->∀j,j<30->(dz i).sz=(dz j).sz->i=j:=by decide +kernel
 rw[this i hi j hj h]
section
variable {lo:Nat}{H:Heap}{s:Sz}
namespace XYf
def xtr:=zzi @Int.cast_ofNat_Int (zzi @ite_self.{1} @Sz.cells.eq_1)
end XYf
open XYf
set_option maxHeartbeats 1000000 in
theorem Pw{l:List Int}(hl:SlI H v l)(hll:l.length<=1000000000)(hlo:lo<=H.length):Ev cp lo 13 [v,s.val] H (fun r H'=>Ext H H'/\xf s l H.length H' r):=by
 have hl0:=hl;obtain⟨ad,c,rfl⟩:=hl.len;refine stG rfl rfl ?_;unfold Nj;simp only[kB,aC];refine aL ?_;generalize hG:H++_=G at *;obtain⟨g0,hxG⟩:=fZ hG;clear hG;have hlG:=hxG.1;refine bY ?_;refine aB (LS (s:=s) (n:=s.d) (hl.mono hxG) hll byO) ?_;rintro r H1 ⟨hx1,rfl⟩;have g0:=hx1.get g0;have hx1:=hxG.trans hx1;have hl1:=hx1.1;refine aL ?_;by_cases he:oT s l s.d=0
 case neg=>
  have hg:xf s l H.length H1 (.tuple #[.slice none 0 0,.int .i64 (oT s l s.d)]):=by
   refine⟨fun _=>rfl,fun i hi hs e hle hlen=>absurd (ze (oJ.2 ⟨i,hi,hs⟩) ?_ ?_) he⟩
   ·rw[hle,eZ,hlen,hs];rfl
   ·rw[hle];exact jb (f:=F1) e
  generalize oT s l s.d=ee at *;refine bQ ?_ ?_<;>intro h
  case refine_2=>exfalso;simp at h;exact he h
  clear h;refine aL ?_;refine bU ?_;exact⟨hx1,hg⟩
 obtain⟨hs,hln,hin⟩:=L0 he;obtain⟨i0,hi0,hs0⟩:=oJ.1 hs;obtain⟨e,hle⟩:=QY (f:=F1) hin;replace hle:l=fo e:=hle;rw[he];subst hs0;have hg:∀{H':Heap} {b:Nat},H.length<=b->Heap.get H' b=some (ah (ilv (dz i0).n ((dz i0).W e) ((dz i0).d+(dz i0).c)))->(∀x,x<(dz i0).n->IsEnc g1 (dz i0).ck 1 (jZ e 0 (dz i0).n x) ((dz i0).W e x))->xf (dz i0).sz l H.length H' (.tuple #[.slice (some ⟨b,0,none⟩) ((dz i0).d+(dz i0).c) ((dz i0).d+(dz i0).c),.int .i64 0]):=by
  intro H' b hb hh hw;refine⟨fun h=>absurd he h,fun i hi hs e2 hle2 hlen2=>?_⟩;have h3:=Ig hi0 hi hs;have h4:e=e2:=List.map_inj_right (f:=fun x:El F1=>((x.val:Nat):Int)) (fun x y h=>El.ext byO) |>.1 (show fo e=fo e2 by rw[<-hle,<-hle2]);subst h4;rw[<-h3];exact⟨b,hb,rfl,hh,hw⟩
 have hcode:=fun {H:Heap} {lo:Nat} (h:lo<=H.length)=>O1 (H:=H) hi0 h;have hz:=zd hi0;clear he hs hin;generalize dz i0=zz at *;have hel:e.length=zz.d:=by
  have h1:l.length=e.length:=by rw[hle];exact eZ e
  have h2:(l.length:Int)=(zz.d:Int):=hln;omega
 have hlz:l.length=zz.d:=by rw[<-hel,hle];exact eZ e
 clear hln;replace hle:False\/_:=.inr hle;replace hlz:l.length<=zz.d/\zz.d<=l.length:=byO;replace hel:False\/_:=.inr hel;have n1:=hz.n1;have n2:=hz.n2;have dn:=hz.dn;have d2:=hz.d2;have c2:=hz.c2;have k1:=hz.k1;have k2:=hz.k2;unfold Dz.sz Sz.val at *;simp only[Sz.cells]at *;refine bQ ?_ ?_<;>intro h
 ·cases h
 clear h;(try simp only[aC]);refine bY ?_;refine aB (hcode byO) ?_;rintro r H2 ⟨hx2,rfl⟩;have g0:=hx2.get g0;have hq2:=Heap.get_lt g0;have hx2:=hx1.trans hx2;have hl2:=hx2.1;clear hcode;unfold cdV;refine aL ?_;generalize hG:H2++_=G1 at *;obtain⟨gc,hxG1⟩:=fZ hG;clear hG;have g0:=hxG1.get g0;have hxc:=hx2.trans hxG1;have hlc:=hxc.1;have hlt0:=Heap.get_lt gc;refine bQ ?_ ?_<;>intro h
 ·cases h
 clear h;(try simp only[aC]);obtain⟨T,hT1,hT2⟩:∃T:Nat,T<=zz.d+zz.c/\zz.d+zz.c<=T:=⟨_,Nat.le_refl _,Nat.le_refl _⟩;have hTT:zz.d+zz.c=T:=byO;rw[hTT]at hg;have hTi:(zz.d:Int)+(zz.c:Int)=((T:Nat):Int):=byO;have hca:∀x,x<zz.n->(cnt T zz.n x<=cnt zz.d zz.n x+zz.ck/\cnt zz.d zz.n x+zz.ck<=cnt T zz.n x)/\0<cnt zz.d zz.n x/\cnt zz.d zz.n x+zz.ck<=250:=fun x hx=>by
  have:=GR hz hx;rw[hTT]at this;omega
 clear hTT hz;refine aL ?_;clear hTi;generalize hG:G1++_=G2 at *;obtain⟨gt,hxG2⟩:=fZ hG;clear hG;generalize hV:(fun j=>(((co (zz.W e (j%zz.n)) (j/zz.n)).val:Nat):Int))=V at *;have gt:Heap.get G2 G1.length=some (ah (mix zz.n V T 0 0)):=by
  rw[gt,Ox]
 have g0:=hxG2.get g0;have gc:=hxG2.get gc;have hxd:=hxc.trans hxG2;have hltt:=Heap.get_lt gt;refine aa (fun x S H'=>Keep G1.length G2 H'/\Heap.get H' G1.length=some (ah (mix zz.n V T x 0))/\(∀y,y<x->IsEnc g1 zz.ck 1 (jZ e 0 zz.n y) (zz.W e y))/\∃(z:Nat->Value),S=[.slice ad l.length c,z 1,.pointer (some ⟨H.length,0,none⟩),z 3,z 4,z 5,.pointer (some ⟨H2.length,0,none⟩),z 7,.slice (some ⟨G1.length,0,none⟩) T T,z 9,z 10,z 11,z 12,z 13,z 14,z 15,z 16,z 17,z 18,.int .i64 (zz.n:Nat),.int .i64 (x:Nat),z 21,z 22,z 23,z 24,z 25,z 26]) zz.n ?_ ?_ ?_ ?_
 ·exact⟨rA (Ext.refl _),gt,byO,aJ rfl⟩
 ·rintro x S H' hx ⟨-,-,-,z,rfl⟩
  exact⟨_,bJ,by simp⟩
 ·clear gt
  rintro x S H3 hx ⟨q1,gt,hw,z,rfl⟩;obtain⟨ca,cb,cc⟩:=hca x hx;have g0:=q1.get g0 byO;have gc:=q1.get gc byO;have hx3:=q1.ext hxd byO;have hl3:=hx3.1;have hsl:=hl0.mono hx3;have hq3:=q1.len;refine aL ?_;refine bY ?_;refine cU (LJ (n:=zz.n) (x:=x) hsl hll hx byO (Nat.le_refl _)) ?_;rintro r H4 ⟨hx4,hr⟩;rw[hle.resolve_left id,F4]at hr;have hr:SlE H4 r (jZ e 0 zz.n x):=I9 hr;have hsd:(jZ e 0 zz.n x).length=cnt zz.d zz.n x:=by rw[sD,hel.resolve_left id]
  have gt:=hx4.get gt;have g0:=hx4.get g0;have gc:=hx4.get gc;have hq4:=hx4.1;(try simp only[aC]);refine bY ?_;refine fD (first:=#[]) (cap:=#[]) (args:=[cdV (fB 301) zz.ck 1,r]) (DT (f:=F1) (g:=g1) (d:=jZ e 0 zz.n x) byO Jw (Jm byO byO) hr byO) ?_;rintro r2 H5 ⟨hx5,⟨-,-,vw,w,rfl,hvw,hnew,hie⟩|⟨hno,-⟩⟩
  case inr=>exact absurd ⟨byO,by show _<256;omega⟩ hno
  obtain rfl:w=zz.W e x:=G8 (Jm byO byO) hie;have hwl:=hie.len;rw[hsd]at hwl;have hwc:(zz.W e x).length=cnt T zz.n x:=byO;have gt:=hx5.get gt;have g0:=hx5.get g0;have gc:=hx5.get gc;have hq5:=hx5.1;have hvw0:=hvw;obtain⟨aw,cw,ew⟩:=hvw.len;rw[hwc]at ew;clear hwc;subst ew;replace hwl:cnt T zz.n x<=(zz.W e x).length/\(zz.W e x).length<=cnt T zz.n x:=byO;have hb5:=Heap.get_lt gt;clear hr;refine aL ?_;refine bQ ?_ ?_<;>intro h
  ·cases h
  clear h;refine aL ?_;refine aa (fun i S H'=>Keep G1.length H5 H'/\Heap.get H' G1.length=some (ah (mix zz.n V T x i))/\∃(z:Nat->Value),S=[.slice ad l.length c,z 1,.pointer (some ⟨H.length,0,none⟩),z 3,z 4,z 5,.pointer (some ⟨H2.length,0,none⟩),z 7,.slice (some ⟨G1.length,0,none⟩) T T,.int .i64 (x:Nat),z 10,z 11,z 12,z 13,z 14,z 15,z 16,z 17,z 18,.int .i64 (zz.n:Nat),.int .i64 (x:Nat),z 21,z 22,z 23,.slice aw (cnt T zz.n x) cw,.int .i64 (cnt T zz.n x:Nat),.int .i64 (i:Nat)]) (cnt T zz.n x) ?_ ?_ ?_ ?_
  ·exact⟨rA (Ext.refl _),gt,aJ rfl⟩
  ·rintro i S H' hi ⟨-,-,z,rfl⟩
   exact⟨_,bJ,by simp⟩
  ·clear gt
   rintro i S H6 hi ⟨q6,gt,z,rfl⟩;have g0:=q6.get g0 byO;have hp:=(ml hx).1 hi;have hms:=Hh (V:=V) hx hp;have hVp:V (x+i*zz.n)=((((zz.W e x).getD i 0).val:Nat):Int):=by
    rw[<-hV];have:=zw (n:=zz.n) (W:=fun _=>[]) (k:=i) hx;simp only[this.1,this.2];rfl
   obtain⟨bw,ow,spw,cw2,xw,e6,gx,hat,hxl⟩:=nC (I8 hvw0 hnew q6 byO) byO;rw[show(zz.W e x).length=cnt T zz.n x by omega]at e6;cases e6;have hati:=hat i byO;have hml:=Hg zz.n V T x i;have hl6:=Heap.get_lt gt;rw[hVp]at hms;have hco:co (zz.W e x) i=(zz.W e x).getD i 0:=rfl;rw[hco]at hati;clear hat hVp hco;replace hp:((x:Nat):Int)+(i:Int)*(zz.n:Int)=((x+i*zz.n:Nat):Int)/\x+i*zz.n<T:=⟨by rw[ap₀,Int.natCast_mul],hp⟩;obtain⟨hp1,hp2⟩:=hp;generalize x+i*zz.n=p at *;generalize ((((zz.W e x).getD i 0).val:Nat):Int)=y at *;generalize mix zz.n V T x i=M at *;generalize mix zz.n V T x (i+1)=M' at *;refine aL ?_;refine⟨B5 q6 _,?_,aJ ncM⟩;rw[aF byO]
  ·rintro S H6 ⟨q6,gt,z,rfl⟩
   rw[EJ hx rfl]at gt;have q7:=mj q1 (mj (rA (hx4.trans hx5)) q6);refine aL ?_;refine⟨q7,gt,fun y hy=>?_,aJ ncM⟩;by_cases e2:y=x
   ·rw[e2];exact hie
   ·exact hw y byO
 ·clear gt
  rintro S H3 ⟨q1,gt,hw,z,rfl⟩;rw[Hf byO,<-hV]at gt;refine aL ?_;refine bU ?_;exact⟨q1.ext hxd byO,hg byO gt hw⟩
end
open Go.Abs
section
variable {α:Type}{enc:α->List Value}{n:Nat}
def cat(enc:α->List Value):List α->List Value
 | []=>[]
 | x::l=>enc x++cat enc l
theorem jv(h:∀x,(enc x).length=n):∀l:List α,(cat enc l).length=l.length*n
 | []=>by simp[cat]
 | x::l=>by rw[cat,as₀,h,jv h l,ak₀,Nat.succ_mul];omega
theorem jA:∀a b:List α,cat enc (a++b)=cat enc a++cat enc b
 | [],b=>rfl
 | x::a,b=>by simp only[am₀,cat,jA a b,ba₀]
theorem Co(h:∀x,(enc x).length=n):∀(l:List α) (k:Nat) (hk:k<l.length),((cat enc l).drop (k*n)).take n=enc l[k]
 | x::l,0,hk=>by
  rw[Nat.zero_mul,List.drop_zero,cat,List.take_append_of_le_length (by rw[h];exact Nat.le_refl _),List.take_of_length_le (by rw[h];exact Nat.le_refl _)];rfl
 | x::l,k+1,hk=>by
  have e:(k+1)*n=(enc x).length+k*n:=by rw[h,Nat.succ_mul];omega
  rw[e,<-List.drop_drop,cat,List.drop_left];exact Co h l k (by simpa using hk)
def OwnG(lo n:Nat)(H:Heap)(v:Value)(b:Nat)(X:List Value):Prop:=
 Own lo n H v b X\/(lo<=b/\∃k,0<k/\k*n=X.length/\v=.slice (some ⟨b,0,none⟩) k k/\H.get b=some X)
theorem OwnG.mono{lo n b:Nat}{H H':Heap}{v:Value}{X:List Value}(h:OwnG lo n H v b X)(e:Ext H H'):OwnG lo n H' v b X:=by
 rcases h with h|⟨h1,k,h2,h3,h4,h5⟩
 ·exact .inl (h.mono e)
 ·exact .inr ⟨h1,k,h2,h3,h4,e.get h5⟩
theorem OwnG.nil{lo n b:Nat}{H:Heap}(h:lo<=b):OwnG lo n H (.slice none 0 0) b []:=.inl (Own.nil h)
theorem OwnG.len{lo b:Nat}{H:Heap}{v:Value}{L:List α}(hn:0<n)(he:∀x,(enc x).length=n)(h:OwnG lo n H v b (cat enc L)):∃a,v=.slice a L.length L.length:=by
 have e:=jv he L;have key:∀k,k*n=(cat enc L).length->k=L.length:=fun k hk=>Nat.eq_of_mul_eq_mul_right hn (hk.trans e);rcases h with h|⟨_,k,_,hk,rfl,_⟩
 ·obtain⟨a,k,rfl,hk,_⟩:=h.len hn
  rw[key k hk];exact⟨_,rfl⟩
 ·rw[key k hk];exact⟨_,rfl⟩
theorem OwnG.at{lo b:Nat}{H:Heap}{v:Value}{L:List α}(hn:0<n)(he:∀x,(enc x).length=n)(h:OwnG lo n H v b (cat enc L)){k:Nat}(hk:k<L.length) :
  ∃p o X,aH (.iAddr n) [v,.int .i64 (k:Nat)] H=some (.pointer (some ⟨p,o,none⟩))/\H.get p=some X/\o+n<=X.length/\(X.drop o).take n=enc L[k]:=by
 have hx:=Co he L k hk;have hl:=jv he L;have hle:k*n+n<=L.length*n:=by rw[<-Nat.succ_mul];exact Nat.mul_le_mul_right _ hk
 obtain⟨a,e⟩:=h.len hn he;have key:∀sp,v=.slice (some ⟨b,0,sp⟩) L.length L.length->H.get b=some (cat enc L)->∃p o X,aH (.iAddr n) [v,.int .i64 (k:Nat)] H=some (.pointer (some ⟨p,o,none⟩))/\H.get p=some X/\o+n<=X.length/\(X.drop o).take n=enc L[k]:=by
  rintro sp rfl hg;refine⟨b,0+k*n,_,?_,hg,byO,by rw[Nat.zero_add];exact hx⟩;rw[lB byO byO];simp
 rcases h with ⟨_,⟨_,h⟩|⟨m,_,_,h3,h4⟩⟩|⟨_,m,_,_,h3,h4⟩
 ·have:=Nat.mul_pos (show 0<L.length by omega) hn
  rw[h,an₀]at hl;omega
 ·rw[h3]at e;cases e
  exact key _ h3 h4
 ·rw[h3]at e;cases e
  exact key _ h3 h4
theorem Ko{cp:FuncId->Option CF}{lo:Nat}{z:List Value}{G H:Heap}{b t:Nat}{sp:Option Nat}{m:Nat}{L:List α}{r:α}{R:Value->Heap->Prop}(hn:0<n)(hn2:n<=100)(he:∀x,(enc x).length=n)(h1:∀x,oneCells (enc x)=true)(ho:OwnG lo n H v b (cat enc L))(hx:Ext G H)(hG:G.length<=b)(hlo:lo<=G.length)(hbig:L.length<=10000000)(ht:H.get t=some (enc r))
  (k:∀v' b' H',OwnG lo n H' v' b' (cat enc (L++[r]))->Ext G H'->G.length<=b'->H.length<=H'.length->R v' H'):wpH cp lo (.app n z) [v,.slice (some ⟨t,0,sp⟩) 1 m] H R:=by
 have hGl:=hx.1;have hcl:=jv he L;have hcb:(cat enc L).length<=1000000000:=by
  rw[hcl];exact Nat.le_trans (Nat.mul_le_mul hbig hn2) (by decide)
 have hl1:(enc r).length=n:=he r;rcases ho with ho|⟨hb,q,hq0,hq,rfl,hg⟩
 ·refine mD ho byO hn byO byO ht byO (c:=enc r) (by rw[List.drop_zero,List.take_of_length_le byO]) (h1 r) ?_
  intro v' H' ho' hk hl';refine k v' H.length H' (.inl ?_) (hk.ext hx hG) hGl byO;rw[jA];simpa[cat]using ho'
 ·have e1:H.cells t 0 (1*n)=some (enc r):=by rw[cells_get ht byO,List.drop_zero,List.take_of_length_le byO]
  have e2:H.cells b 0 (q*n)=some (cat enc L):=by rw[cells_get hg byO,List.drop_zero,List.take_of_length_le byO]
  have hq1:q<=(cat enc L).length:=by rw[<-hq];exact Nat.le_mul_of_pos_right q hn
  simp only[wpH,cL,hsem,e1,ao₀,h1 r,if_true,aU];rw[if_neg byO,if_neg (by show ¬ bh<_;unfold bh;omega),e2];simp only[Option.map_some];refine k _ H.length _ (.inl ⟨byO,.inr ⟨q+1,byO,?_,rfl,?_⟩⟩) (hx.trans (Ext.app _ _)) hGl (by simp)
  ·rw[jA,as₀,<-hq,Nat.succ_mul];simp[cat,hl1]
  ·rw[aG,jA];simp[cat]
end
abbrev ptr(b:Nat):Value:=.pointer (some ⟨b,0,none⟩)
structure Opt where
 h0:Nat
 h1:Nat
 h2:Nat
 sz:Nat
 run:Nat
 nx:Nat
 md:Nat
def aM(o:Opt):List Value:=[aA o.h0,aA o.h1,aA o.h2,aA o.sz,aA o.run,aA o.nx,aA o.md]
abbrev yl(o:Opt):Value:=.agg #[aA o.h0,aA o.h1,aA o.h2,aA o.sz,aA o.run,aA o.nx,aA o.md]
theorem fS(o:Opt):(aM o).length=7:=rfl
theorem wo(o:Opt):oneCells (aM o)=true:=rfl
structure SrH (H:Heap)(sb cb:Nat)(v:Value)(p:List UInt8)(cs:List Nat):Prop where
 g:H.get sb=some [v,.slice (some ⟨cb,0,none⟩) (p.length+1) (p.length+1)]
 c:H.get cb=some (uN cs)
 pl:SlU H v p
 len:cs.length=(p.length+1)*19
 hi:p.length<=4096
 le:∀i,cs.getD i 0<=1073741824
theorem SrH.ext{H H':Heap}{sb cb:Nat}{v:Value}{p:List UInt8}{cs:List Nat}(h:SrH H sb cb v p cs)(e:Ext H H'):SrH H' sb cb v p cs:=
 ⟨e.get h.g,e.get h.c,h.pl.mono e,h.len,h.hi,h.le⟩
theorem mW{cs:List Nat}{k:Nat}(h:k<cs.length):(uN cs)[k]?=some (aA (cs.getD k 0)):=by
 simp[uN,au₀,h]
def bD(cs:List Nat)(o:Opt):Nat:=o.sz+o.run+cs.getD (o.nx*19+o.md) 0
section
variable {lo:Nat}{H:Heap}{sb cb:Nat}{v:Value}{p:List UInt8}{cs:List Nat}
open XYe
theorem Rb{o:Opt}(h1:o.sz<=10)(h2:o.run<=10000):Ev cp lo 198 [yl o] H (fun r H'=>Ext H H'/\r=aA (o.sz+o.run)):=by
 refine stG rfl rfl ?_;unfold Jb;simp only[kB,aC];refine aL ?_;refine bU ?_;exact⟨Ext.app _ _,rfl⟩
theorem Sa{o:Opt}(hs:SrH H sb cb v p cs)(h1:o.sz<=10)(h2:o.run<=10000)(h3:o.nx<=p.length)(h4:o.md<19):Ev cp lo 177 [ptr sb,yl o] H (fun r H'=>Ext H H'/\r=aA (bD cs o)):=by
 have hg:=hs.g;have hc:=hs.c;have hlen:=hs.len;have hle:=hs.le (o.nx*19+o.md);have hk:o.nx*19+o.md<cs.length:=byO;have hat:=mW hk;have hsl:=Heap.get_lt hg;have hcl:=Heap.get_lt hc;have hul:(uN cs).length=cs.length:=by simp
 unfold bD;generalize cs.getD (o.nx*19+o.md) 0=w at hat hle;generalize uN cs=X at hc hat hul;replace hul:X.length<=cs.length/\cs.length<=X.length:=byO;replace hlen:cs.length<=(p.length+1)*19/\(p.length+1)*19<=cs.length:=byO;refine stG rfl rfl ?_;unfold J0;simp only[kB,aC];refine aL ?_;refine bY ?_;refine cU (Rb h1 h2) ?_;rintro r H1 ⟨hx1,rfl⟩;refine aL ?_;refine bU ?_;exact⟨(Ext.app _ _).trans hx1,rfl⟩
end
theorem lY{a:Nat}:BitVec.ofInt 64 ((a:Nat):Int)=BitVec.ofNat 64 a:=BitVec.ofInt_natCast 64 a
theorem Am{a:Nat}(h:a<9223372036854775808):IntKind.i64.wrap (a:Int)=(a:Int):=lJ byO byO
theorem uC{a b:Nat}(ha:a<2^63)(hb:b<2^63):IntKind.i64.wrap ((BitVec.ofInt IntKind.i64.bits (a:Int) &&& BitVec.ofInt IntKind.i64.bits (b:Int)).toNat:Int)=((a &&& b:Nat):Int):=by
 have e:(BitVec.ofInt IntKind.i64.bits (a:Int) &&& BitVec.ofInt IntKind.i64.bits (b:Int)).toNat=a &&& b:=by
  show(BitVec.ofInt 64 (a:Int) &&& BitVec.ofInt 64 (b:Int)).toNat=a &&& b;rw[lY,lY,BitVec.toNat_and,BitVec.toNat_ofNat,BitVec.toNat_ofNat,Nat.mod_eq_of_lt byO,Nat.mod_eq_of_lt byO]
 rw[e];refine Am ?_;exact Nat.lt_of_le_of_lt Nat.and_le_left ha
theorem Ea{a b:Nat}(ha:a<2^62)(hb:b<2^62):IntKind.i64.wrap ((BitVec.ofInt IntKind.i64.bits (a:Int) ||| BitVec.ofInt IntKind.i64.bits (b:Int)).toNat:Int)=((a ||| b:Nat):Int):=by
 have e:(BitVec.ofInt IntKind.i64.bits (a:Int) ||| BitVec.ofInt IntKind.i64.bits (b:Int)).toNat=a ||| b:=by
  show(BitVec.ofInt 64 (a:Int) ||| BitVec.ofInt 64 (b:Int)).toNat=a ||| b;rw[lY,lY,BitVec.toNat_or,BitVec.toNat_ofNat,BitVec.toNat_ofNat,Nat.mod_eq_of_lt byO,Nat.mod_eq_of_lt byO]
 rw[e];refine Am ?_;have:=Nat.or_lt_two_pow ha hb;omega
theorem Km(a:Nat):a &&& 255=a%256:=Nat.and_two_pow_sub_one_eq_mod a 8
theorem Nh(a:Nat):a &&& 63=a%64:=Nat.and_two_pow_sub_one_eq_mod a 6
theorem Jt{a b:Nat}(k:Nat)(hb:b=2^k)(hk:k<=64):(a:Int).fdiv (2^(min ((k:Nat):Int).toNat IntKind.i64.bits))=((a/b:Nat):Int):=by
 subst hb;have e:min ((k:Nat):Int).toNat IntKind.i64.bits=k:=by
  show min ((k:Nat):Int).toNat 64=k;simp;omega
 rw[e,Int.fdiv_eq_ediv_of_nonneg _ (by exact Int.le_of_lt (Int.pow_pos (by decide)))];simp
def j0(u v w at' md:Nat):Opt:=⟨(1600*u+40*v+w+1)/256,(1600*u+40*v+w+1)%256,0,2,0,at',md⟩
def fF(g n at' md:Nat):Opt:=⟨g*2^(6*(4-n))/65536,g*2^(6*(4-n))/256%256,g*2^(6*(4-n))%256,(6*n+7)/8,0,at',md⟩
section
variable {lo:Nat}{H:Heap}
open XYe
theorem Qe{u v w a m:Nat}(hu:u<=100)(hv:v<=100)(hw:w<=100)(ha:a<=10000)(hm:m<=100)(hlo:lo<=H.length):Ev cp lo 208 [aA u,aA v,aA w,aA a,aA m] H (fun r H'=>Ext H H'/\r=yl (j0 u v w a m)):=by
 have e:1600*(u:Int)+40*(v:Int)+(w:Int)+1=((1600*u+40*v+w+1:Nat):Int):=byO;have hb:1600*u+40*v+w+1<=1000000:=byO;unfold j0;generalize 1600*u+40*v+w+1=n at e hb;have ed:(n:Int).tdiv 256=((n/256:Nat):Int):=by rw[Int.tdiv_eq_ediv_of_nonneg byO];omega
 have em:(n:Int).tmod 256=((n%256:Nat):Int):=by rw[Int.tmod_eq_emod_of_nonneg byO];omega
 have h0:(0:Nat)<=5:=byO;refine stG rfl rfl ?_;unfold Jh;simp only[kB,aC];refine aL ?_;refine bU ?_;exact⟨Ext.app _ _,rfl⟩
theorem OV{g n a m:Nat}(hn:1<=n/\n<=4)(hg:g<2^(6*n))(ha:a<=10000)(hm:m<=100)(hlo:lo<=H.length):Ev cp lo 210 [aA g,aA n,aA a,aA m] H (fun r H'=>Ext H H'/\r=yl (fF g n a m)):=by
 have hG:g*2^(6*(4-n))<16777216:=by
  have:(16777216:Nat)=2^(6*n)*2^(6*(4-n)):=by rw[<-Nat.pow_add,show 6*n+6*(4-n)=24 by omega]
  rw[this];exact Nat.mul_lt_mul_of_pos_right hg (Nat.pow_pos (by decide))
 have hsh:IntKind.i64.wrap ((g:Int)*2^(min (6*(4-(n:Int))).toNat IntKind.i64.bits))=((g*2^(6*(4-n)):Nat):Int):=by
  have e:min (6*(4-(n:Int))).toNat IntKind.i64.bits=6*(4-n):=by
   show min (6*(4-(n:Int))).toNat 64=6*(4-n);omega
  rw[e];have e2:(g:Int)*2^(6*(4-n))=((g*2^(6*(4-n)):Nat):Int):=by simp
  rw[e2];exact Am byO
 unfold fF;generalize g*2^(6*(4-n))=G at hG hsh;have h16:=Jt (a:=G) (b:=65536) 16 rfl byO;have h8:=Jt (a:=G) (b:=256) 8 rfl byO;have ha1:=uC (a:=G/256) (b:=255) byO byO;have ha2:=uC (a:=G) (b:=255) byO byO;rw[Km]at ha1 ha2;have ed:(6*(n:Int)+7).tdiv 8=(((6*n+7)/8:Nat):Int):=by rw[Int.tdiv_eq_ediv_of_nonneg byO];omega
 simp only[Int.cast_ofNat_Int]at h16 h8 ha1 ha2;refine stG rfl rfl ?_;unfold Ji;simp only[kB,aC];refine aL ?_;refine bU ?_;exact⟨Ext.app _ _,rfl⟩
end
structure Mv where
 v:Nat
 a:Nat
 s:Nat
 u:Bool
def mvC(m:Mv):List Value:=[aA m.v,aA m.a,aA m.s,.bool m.u]
theorem gw(o:Mv):(mvC o).length=4:=rfl
theorem ud(o:Mv):oneCells (mvC o)=true:=rfl
abbrev by'(p:List UInt8)(i:Nat):Nat:=(p.getD i 0).toNat
theorem pF(p:List UInt8)(i:Nat):by' p i<256:=(p.getD i 0).toNat_lt
def mv3(a:Nat)(u:Bool)(k:Nat):List Mv:=(List.range k).map fun i=>⟨i,a,i+1,u⟩
theorem EU(a:Nat)(u:Bool)(k:Nat):mv3 a u (k+1)=mv3 a u k++[⟨k,a,k+1,u⟩]:=by
 unfold mv3;rw[List.range_succ,List.map_append];rfl
def mvA(a s:Nat)(u:Bool):List Mv:=if s=0 then mv3 a u 3 else[]
def mvB(p:List UInt8)(a s:Nat)(u lower:Bool):List Mv:=if a<p.length/\(cQ lower (by' p a%128)).1=s/\u=decide (128<=by' p a) then[⟨(cQ lower (by' p a%128)).2,a+1,0,false⟩] else[]
def mvD(a s:Nat)(u:Bool):List Mv:=if s=2/\u=false then[⟨30,a,0,true⟩] else[]
def iX(p:List UInt8)(a s:Nat)(u lower:Bool):List Mv:=mvA a s u++mvB p a s u lower++mvD a s u
theorem iY(p:List UInt8)(a s:Nat)(u lower:Bool):(iX p a s u lower).length<=5:=by
 unfold iX mvA mvB mvD mv3;split<;>split<;>split<;>simp
theorem om(b:Bool)(n:Nat)(h:n<128):(cQ b n).1<=3/\(cQ b n).2<=39:=by
 unfold cQ;repeat' split
 all_goals (refine⟨?_,?_⟩<;>simp only[]<;>omega)
def Mv.ok(p:List UInt8)(a:Nat)(m:Mv):Prop:=m.v<=39/\a<=m.a/\m.a<=p.length/\m.s<=3
theorem lV{a s:Nat}{u lower:Bool}(ha:a<=p.length):∀m ∈ iX p a s u lower,m.ok p a:=by
 intro m hm;unfold iX mvA mvB mvD mv3 at hm;rw[bd₀,bd₀]at hm;rcases hm with (hm|hm)|hm
 ·split at hm
  ·obtain⟨i,hi,rfl⟩:=List.mem_map.1 hm
   have:=List.mem_range.1 hi;exact⟨by simp only;omega,Nat.le_refl _,ha,by simp only;omega⟩
  ·cases hm
 ·split at hm
  ·rename_i h
   obtain rfl:=List.mem_singleton.1 hm;have:=om lower (by' p a%128) byO;exact⟨this.2,by simp only;omega,by simp only;omega,Nat.zero_le _⟩
  ·cases hm
 ·split at hm
  ·obtain rfl:=List.mem_singleton.1 hm
   exact⟨by simp only;omega,Nat.le_refl _,ha,Nat.zero_le _⟩
  ·cases hm
def eR(at':Nat):Opt:=⟨254,0,0,1,0,at',0⟩
def gX(first:Nat)(w:Mv):Nat:=if w.u then first+w.s+4 else first+w.s
def pb(first:Nat)(u v:Mv)(L:List Mv):List Opt:=L.map fun w=>j0 u.v v.v w.v w.a (gX first w)
def sI(p:List UInt8)(first:Nat)(lower:Bool)(u:Mv)(L:List Mv):List Opt:=L.flatMap fun v=>pb first u v (iX p v.a v.s v.u lower)
def sf(p:List UInt8)(first:Nat)(lower:Bool)(L:List Mv):List Opt:=L.flatMap fun u=>sI p first lower u (iX p u.a u.s u.u lower)
def im(p:List UInt8)(at' st first:Nat)(lower:Bool):List Opt:=eR at'::sf p first lower (iX p at' (st%4) (decide (4<=st)) lower)
def sP(p:List UInt8)(at':Nat):List Opt:=
 eR at'::if at'+3<=p.length/\dE (by' p at')≠0/\dE (by' p (at'+1))≠0/\dE (by' p (at'+2))≠0 then[j0 (dE (by' p at')-1) (dE (by' p (at'+1))-1) (dE (by' p (at'+2))-1) (at'+3) 17] else[]
def gg(p:List UInt8)(at':Nat):Nat->Nat->Nat->List Opt
 | 0,n,g=>[fF g 4 (at'+n) 18]
 | k+1,n,g=>fF (64*g+31) (n+1) (at'+n) 0::if at'+n<p.length/\32<=by' p (at'+n)/\by' p (at'+n)<=94 then gg p at' k (n+1) (64*g+by' p (at'+n)%64) else[]
def oU(p:List UInt8)(at':Nat):List Opt:=gg p at' 4 0 0
def cW(at' n:Nat):Opt:=if n<250 then⟨231,n,0,2,n,at'+n,0⟩ else⟨231,249+n/250,n%250,3,n,at'+n,0⟩
def bm:Opt:=⟨0,0,0,0,0,0,0⟩
def fW(cs:List Nat)(at':Nat):Nat->Opt
 | 0=>bm
 | n+1=>if n=0 then cW at' 1 else if bD cs (cW at' (n+1))<bD cs (fW cs at' n) then cW at' (n+1) else fW cs at' n
def uG(p:List UInt8)(cs:List Nat)(at':Nat):Opt:=fW cs at' (min (p.length-at') 1749)
def fH(at':Nat):List Opt:=[⟨230,0,0,1,0,at',1⟩,⟨239,0,0,1,0,at',9⟩,⟨238,0,0,1,0,at',17⟩,⟨240,0,0,1,0,at',18⟩]
def dv(c at':Nat):Opt:=if c<128 then⟨c+1,0,0,1,0,at'+1,0⟩ else⟨235,c-127,0,2,0,at'+1,0⟩
def jh(p:List UInt8)(at':Nat):List Opt:=if at'+2<=p.length/\j6 (by' p at')=true/\j6 (by' p (at'+1))=true then[⟨130+(10*(by' p at'-48)+by' p (at'+1)-48),0,0,1,0,at'+2,0⟩] else[]
def oP(p:List UInt8)(cs:List Nat)(at':Nat):List Opt:=fH at'++if at'<p.length then[dv (by' p at') at']++jh p at'++[uG p cs at'] else[]
def dJ(p:List UInt8)(cs:List Nat)(at' st:Nat):List Opt:=
 if st=0 then oP p cs at' else if st<9 then im p at' (st-1) 1 false else if st<17 then im p at' (st-9) 9 true else if st=17 then sP p at' else oU p at'
structure Opt.ok (n at':Nat)(o:Opt):Prop where
 sz:1<=o.sz/\o.sz<=3
 run:o.run<=1749
 nx:at'<=o.nx/\o.nx<=n
 md:o.md<19
 h:o.h0<=255/\o.h1<=255/\o.h2<=255
theorem AG{n at':Nat}(h:at'<=n):(eR at').ok n at':=⟨⟨Nat.le_refl 1,by simp[eR]⟩,by simp[eR],⟨Nat.le_refl _,h⟩,by simp[eR],by simp[eR]⟩
theorem Aj{n at' u v w a m:Nat}(hu:u<=39)(hv:v<=39)(hw:w<=39)(h:at'<=a/\a<=n)(hm:m<19):(j0 u v w a m).ok n at':=by
 refine⟨⟨by simp[j0],by simp[j0]⟩,by simp[j0],h,hm,?_⟩;unfold j0;refine⟨?_,?_,Nat.zero_le _⟩<;>simp only<;>omega
theorem we{first:Nat}{w:Mv}(h:w.s<=3):gX first w<first+8:=by
 unfold gX;split<;>omega
theorem xX{at' st first:Nat}{lower:Bool}(ha:at'<=p.length)(hf:first<=9):∀o ∈ im p at' st first lower,o.ok p.length at':=by
 intro o ho;unfold im at ho;rcases List.mem_cons.1 ho with rfl|ho
 ·exact AG ha
 ·unfold sf sI pb at ho
  obtain⟨u,hu,ho⟩:=List.mem_flatMap.1 ho;obtain⟨v,hv,ho⟩:=List.mem_flatMap.1 ho;obtain⟨w,hw,rfl⟩:=List.mem_map.1 ho;obtain⟨hu1,hu2,hu3,hu4⟩:=lV ha u hu;obtain⟨hv1,hv2,hv3,hv4⟩:=lV hu3 v hv;obtain⟨hw1,hw2,hw3,hw4⟩:=lV hv3 w hw;have:=we (first:=first) hw4;exact Aj hu1 hv1 hw1 ⟨byO,hw3⟩ byO
theorem gF(n:Nat):dE n<=40:=by
 unfold dE;repeat' split
 all_goals omega
theorem Il{at':Nat}(ha:at'<=p.length):∀o ∈ sP p at',o.ok p.length at':=by
 intro o ho;unfold sP at ho;rcases List.mem_cons.1 ho with rfl|ho
 ·exact AG ha
 ·split at ho
  ·rename_i h
   obtain rfl:=List.mem_singleton.1 ho;have h1:=gF (by' p at');have h2:=gF (by' p (at'+1));have h3:=gF (by' p (at'+2));exact Aj byO byO byO ⟨byO,h.1⟩ byO
  ·cases ho
theorem zW{N at' g n a m:Nat}(hn:1<=n/\n<=4)(hg:g<2^(6*n))(h:at'<=a/\a<=N)(hm:m<19):(fF g n a m).ok N at':=by
 have hG:g*2^(6*(4-n))<16777216:=by
  have:(16777216:Nat)=2^(6*n)*2^(6*(4-n)):=by rw[<-Nat.pow_add,show 6*n+6*(4-n)=24 by omega]
  rw[this];exact Nat.mul_lt_mul_of_pos_right hg (Nat.pow_pos (by decide))
 unfold fF;generalize g*2^(6*(4-n))=G at hG;refine⟨⟨?_,?_⟩,Nat.zero_le _,h,hm,⟨?_,?_,?_⟩⟩<;>simp only<;>omega
theorem Pu(n:Nat):2^(6*(n+1))=64*2^(6*n):=by rw[Nat.mul_succ,Nat.pow_add];omega
theorem zf{p:List UInt8}{at':Nat}:∀(k n g:Nat),n+k=4->g<2^(6*n)->at'+n<=p.length->∀o ∈ gg p at' k n g,o.ok p.length at'
 | 0,n,g,hn,hg,ha,o,ho=>by
  simp only[gg]at ho;obtain rfl:=List.mem_singleton.1 ho;have:n=4:=byO;subst this;exact zW ⟨byO,byO⟩ hg ⟨byO,ha⟩ byO
 | k+1,n,g,hn,hg,ha,o,ho=>by
  simp only[gg]at ho;have h6:=Pu n;rcases List.mem_cons.1 ho with rfl|ho
  ·exact zW ⟨byO,byO⟩ (by rw[h6];omega) ⟨byO,ha⟩ byO
  ·split at ho
   ·rename_i h
    exact zf k (n+1) _ byO (by rw[h6];omega) byO o ho
   ·cases ho
theorem G6{at':Nat}(ha:at'<=p.length):∀o ∈ oU p at',o.ok p.length at':=zf 4 0 0 rfl (by decide) ha
theorem uF{N at' n:Nat}(h1:1<=n)(h2:n<=1749)(h:at'+n<=N):(cW at' n).ok N at':=by
 unfold cW;split<;>refine⟨⟨?_,?_⟩,?_,⟨?_,?_⟩,?_,⟨?_,?_,?_⟩⟩<;>simp only<;>omega
theorem nO{cs:List Nat}{at':Nat}:∀n,1<=n->∃k,1<=k/\k<=n/\fW cs at' n=cW at' k
 | 1,_=>⟨1,Nat.le_refl _,Nat.le_refl _,by simp[fW]⟩
 | n+2,_=>by
  obtain⟨k,h1,h2,h3⟩:=nO (cs:=cs) (at':=at') (n+1) byO;by_cases h:bD cs (cW at' (n+2))<bD cs (fW cs at' (n+1))
  ·exact⟨n+2,byO,Nat.le_refl _,by rw[fW,if_neg byO,if_pos h]⟩
  ·exact⟨k,h1,byO,by rw[fW,if_neg byO,if_neg h];exact h3⟩
theorem zU{cs:List Nat}{N at' n:Nat}(h1:1<=n)(h2:n<=1749)(h:at'+n<=N):(fW cs at' n).ok N at':=by
 obtain⟨k,h3,h4,e⟩:=nO (cs:=cs) (at':=at') n h1;rw[e];exact uF h3 byO byO
theorem AI{N at':Nat}(h:at'<=N):∀o ∈ fH at',o.ok N at':=by
 intro o ho;simp only[fH,be₀,List.not_mem_nil,or_false]at ho;rcases ho with rfl|rfl|rfl|rfl<;>exact⟨⟨by simp,by simp⟩,by simp,⟨Nat.le_refl _,h⟩,by simp,by simp⟩
theorem Ck{N c at':Nat}(hc:c<256)(h:at'<N):(dv c at').ok N at':=by
 unfold dv;split<;>refine⟨⟨?_,?_⟩,?_,⟨?_,?_⟩,?_,⟨?_,?_,?_⟩⟩<;>simp only<;>omega
theorem cz:j6 n=true↔48<=n/\n<=57:=by simp[j6]
theorem Ed{at':Nat}:∀o ∈ jh p at',o.ok p.length at':=by
 intro o ho;unfold jh at ho;split at ho
 ·rename_i h
  obtain rfl:=List.mem_singleton.1 ho;obtain⟨h1,h2,h3⟩:=h;have h2:=cz.1 h2;have h3:=cz.1 h3;refine⟨⟨?_,?_⟩,?_,⟨?_,?_⟩,?_,⟨?_,?_,?_⟩⟩<;>simp only<;>omega
 ·cases ho
theorem GA{cs:List Nat}{at':Nat}(ha:at'<=p.length):∀o ∈ oP p cs at',o.ok p.length at':=by
 intro o ho;unfold oP at ho;rcases List.mem_append.1 ho with ho|ho
 ·exact AI ha o ho
 ·split at ho
  ·rename_i h
   simp only[bd₀,List.mem_singleton]at ho;rcases ho with (rfl|ho)|rfl
   ·exact Ck (pF p at') h
   ·exact Ed o ho
   ·exact zU byO byO byO
  ·cases ho
theorem iA{cs:List Nat}{at' st:Nat}(ha:at'<=p.length):∀o ∈ dJ p cs at' st,o.ok p.length at':=by
 intro o ho;unfold dJ at ho;split at ho
 ·exact GA ha o ho
 ·split at ho
  ·exact xX ha byO o ho
  ·split at ho
   ·exact xX ha byO o ho
   ·split at ho
    ·exact Il ha o ho
    ·exact G6 ha o ho
theorem kE{α β:Type}(f:α->List β):∀(l:List α) (k:Nat) (h:k<l.length),(l.take (k+1)).flatMap f=(l.take k).flatMap f++f l[k]
 | x::l,0,h=>by simp
 | x::l,k+1,h=>by
  simp only[List.take_succ_cons,List.flatMap_cons,List.getElem_cons_succ,ba₀];rw[kE f l k (by simpa using h)]
theorem map_take{α β:Type}(f:α->β)(l:List α)(k:Nat)(h:k<l.length):(l.take (k+1)).map f=(l.take k).map f++[f l[k]]:=by
 rw[List.take_succ_eq_append_getElem h,List.map_append];rfl
end Go.Proofs.YtmnlgdpdgjbfgaaGreat
