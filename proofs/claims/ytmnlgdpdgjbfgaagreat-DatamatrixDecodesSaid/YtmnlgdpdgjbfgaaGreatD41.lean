/- Lemmas. -/
import Derived.Test.YtmnlgdpdgjbfgaaGreatD13
import Derived.Test.YtmnlgdpdgjbfgaaGreatD28
import Derived.Test.YtmnlgdpdgjbfgaaGreatD34
import Derived.Test.YtmnlgdpdgjbfgaaGreatD40
import Derived.Test.YtmnlgdpdgjbfgaaGreatRows
set_option linter.all false
namespace Go.Proofs.YtmnlgdpdgjbfgaaGreat
open Go.Abs
set_option maxRecDepth 20000
theorem rT{i k:Nat}(hi:i<30)(hk:k<7):szCells[i*7+k]?=(bZ i).cells[k]?:=by
 rw[<-gH hi,List.getElem?_take,if_pos hk,List.getElem?_drop]
def mb(w u:Int)(i:Nat):Sz:=(szs.take i).foldl (fun a s=>if ma w u s=true then s else a) Sz.zero
theorem kn{w u:Int}{i:Nat}(h:i<30):mb w u (i+1)=if ma w u (bZ i)=true then bZ i else mb w u i:=by
 unfold mb;rw[iG h,List.foldl_append];rfl
theorem Eh:∀s ∈ szs,∀t ∈ szs,s.r=t.r->s.c=t.c->s=t:=by
 have h:(szs.all fun s=>szs.all fun t=>!(decide (s.r=t.r)&&decide (s.c=t.c)) || decide (s=t))=true:=by kernel_rfl
 intro s hs t ht h1 h2;have:=List.all_eq_true.1 (List.all_eq_true.1 h s hs) t ht;simpa[h1,h2]using this
theorem oi{w u:Int}(h:fK w u=none):∀i,i<=30->mb w u i=Sz.zero
 | 0,_=>rfl
 | i+1,hi=>by
  have:ma w u (bZ i)=false:=by
   have:=List.find?_eq_none.1 h (bZ i) (an byO);simpa using this
  rw[kn byO,this,if_neg (by simp),oi h i byO]
theorem oq{w u:Int}{s:Sz}(h:fK w u=some s):∀i,i<=30->(szs.take i).any (ma w u)=true->mb w u i=s
 | 0,_,h=>by simp at h
 | i+1,hi,ha=>by
  rw[kn byO];split
  ·rename_i hy
   obtain⟨h1,h2,h3⟩:=lQ h;simp only[ma,ac₀,af₀]at hy;exact Eh _ (an byO) _ h1 byO byO
  ·rename_i hy
   rw[mu byO,Bool.eq_false_iff.2 hy,Bool.or_false]at ha;exact oq h i byO ha
theorem xl{w u:Int}{s:Sz}(h:fK w u=some s):mb w u 30=s:=by
 refine oq h 30 byO ?_;rw[List.take_of_length_le (by rw[gP];omega)];exact List.any_eq_true.2 ⟨s,List.mem_of_find?_eq_some h,List.find?_some h⟩
open XJWp
set_option maxHeartbeats 8000000 in
theorem A8{lo:Nat}{H:Heap}{vd:Value}{dk:List Bool}{w u:Int}(hlo:lo<=H.length)(hd:SlB H vd dk):Ev cp lo 47 [.agg #[.int .i64 w,.int .i64 u,vd]] H (fun r H'=>Ext H H'/\pX w u dk H' r):=by
 have hd0:=hd;obtain⟨ad,cd,rfl⟩:=hd.len;refine stG rfl rfl ?_;unfold ND;simp only[kB,aB];refine aU ?_;refine dH ?_;refine aA HY ?_;rintro v H1 ⟨hx1,rfl⟩;have g0:H1.get H.length=some _:=hx1.get jS;have g1:H1.get (H.length+1)=some _:=hx1.get jS;have hl1:=Heap.get_lt g1;have hx1:=hx1.of_app;(try simp only[aB]);refine cJ ?_ ?_<;>intro h
 ·have hv:gJ w u dk.length=false:=by simpa using h
  clear h;refine aU ?_;refine dU ?_;exact⟨hx1.set byO,.inl ⟨hv,rfl⟩⟩
 have hv:gJ w u dk.length=true:=by simpa using h
 clear h;refine aU ?_;have g7:Heap.get (H1++[some Sz.zero.cells]) H1.length=some Sz.zero.cells:=aK;refine dH ?_;refine aA (zr (by simp;omega)) ?_;rintro v H2 ⟨j,hj,rfl,hg,hx2⟩;have g7:=hx2.get g7;have hx2:=hx2.of_app;have g0:=(hx2).get g0;have g1:=(hx2).get g1;have hx2:=hx1.trans hx2;have hl7:=Heap.get_lt g7;have hjl:=Heap.get_lt hg;simp only[as₀,ak₀,an₀]at hj;generalize H1.length=p7 at *;clear hx1;refine aU ?_;refine aa (fun i S H'=>Ext H H'/\H'.get H.length=some [.int .i64 w,.int .i64 u,.slice ad dk.length cd]/\H'.get (H.length+1)=some Sz.zero.cells/\H'.get p7=some (mb w u i).cells/\H'.get j=some szCells/\∃z0 z8 z9 z10 z11 z12 z13 z14 z15 z16 z17 z18 z19 z20 z21 z22 z23 z24 z25 z26,S=[z0,.pointer (some ⟨H.length,0,none⟩),.slice none 0 0,.pointer (some ⟨H.length+1,0,none⟩),.int .i64 0,.pointer (some ⟨p7,0,none⟩),.slice (some ⟨j,0,some 7⟩) 30 30,.int .i64 (i:Nat),z8,z9,z10,z11,z12,z13,z14,z15,z16,z17,z18,z19,z20,z21,z22,z23,z24,z25,z26]) 30 ?_ ?_ ?_ ?_
 ·exact⟨hx2,g0,g1,g7,hg,_,_,_,_,_,_,_,_,_,_,_,_,_,_,_,_,_,_,_,_,rfl⟩
 ·rintro i S H' hi ⟨hx,f0,f1,f7,fg,z0,z8,z9,z10,z11,z12,z13,z14,z15,z16,z17,z18,z19,z20,z21,z22,z23,z24,z25,z26,rfl⟩
  exact⟨_,jS,by simp;try omega⟩
 ·clear g0 g1 g7 hg
  rintro i S H' hi ⟨hx,f0,f1,f7,fg,z0,z8,z9,z10,z11,z12,z13,z14,z15,z16,z17,z18,z19,z20,z21,z22,z23,z24,z25,z26,rfl⟩;have hrow:=gH hi;have hlen:=gY;have e0:=rT (k:=0) hi byO;have e1:=rT (k:=1) hi byO;simp only[Nat.add_zero,Sz.cells,List.getElem?_cons_zero,List.getElem?_cons_succ]at e0 e1;have hs:=kn (w:=w) (u:=u) hi;have hl7:=Heap.get_lt f7;have hisz:(decide ((bZ i).r=u)&&decide ((bZ i).c=w))=ma w u (bZ i):=rfl;(try simp only[aB]);refine cJ ?_ ?_<;>intro h
  ·rw[if_pos h]at hs
   clear h;refine aU ?_;exact⟨hx.set (by omega),by simp(disch:=try exact dO)only[evB,xtr, *],by simp(disch:=try exact dO)only[evB,xtr, *],by simp(disch:=try exact dO)only[evB,xtr, *],by simp(disch:=try exact dO)only[evB,xtr, *],_,_,_,_,_,_,_,_,_,_,_,_,_,_,_,_,_,_,_,_,ncM⟩
  ·rw[if_neg (by rw[h];simp)]at hs
   clear h;refine aU ?_;exact⟨hx,f0,f1,by rw[hs];exact f7,fg,_,_,_,_,_,_,_,_,_,_,_,_,_,_,_,_,_,_,_,_,ncM⟩
 clear hx2 g0 g1 g7 hg;rintro S H2 ⟨hx2,g0,g1,g7,hg,z0,z8,z9,z10,z11,z12,z13,z14,z15,z16,z17,z18,z19,z20,z21,z22,z23,z24,z25,z26,rfl⟩;have hl1:=Heap.get_lt g1;have hl7:=Heap.get_lt g7;(try simp only[aB]);cases hf:fK w u with
 | none=>
  rw[oi hf 30 (Nat.le_refl _)]at g7;refine cJ ?_ ?_<;>intro h
  ·clear h
   refine aU ?_;refine dU ?_;exact⟨hx2.set byO,.inr (.inl ⟨hv,hf,rfl⟩)⟩
  ·simp[Sz.zero]at h
 | some s=>
 rw[xl hf]at g7;obtain⟨hsm,hh,hw⟩:=lQ hf;subst hh;subst hw;have hok:=uk s hsm;have hok':=hok;obtain⟨r0,r1,c0,c1,rr0,rr1,rc0,rc1,d0,d1,k0,k1⟩:=hok';obtain⟨gf,hso⟩:=yS s hsm;obtain⟨hdn,-⟩:=rU hv;rw[Int.mul_comm]at hdn;have hdn':(dk.length:Int)<=s.r*s.c/\s.r*s.c<=dk.length:=byO;clear hdn;refine cJ ?_ ?_<;>intro h
 ·exfalso;simp at h;omega
 clear h;(try simp only[aB]);refine dH ?_;refine aA (si (s:=s) hok) ?_;rintro v H4 ⟨hx4,rfl⟩;have g0:=(hx4).get g0;have g1:=(hx4).get g1;have g7:=(hx4).get g7;have hx4:=hx2.trans hx4;have hl7:=Heap.get_lt g7;clear hg;refine aU ?_;refine dH ?_;refine aA (Gl hso.dim (by have:=hx4.1;omega) hso.ord) ?_;rintro v H5 ⟨hx5,q,hq,rfl,hgq⟩;have g0:=(hx5).get g0;have g1:=(hx5).get g1;have g7:=(hx5).get g7;have hx5:=hx4.trans hx5;have hql:=Heap.get_lt hgq;have hl5:=Heap.get_lt g7;have hgl:gf.cells.length<=(gh s*ez s).toNat/\(gh s*ez s).toNat<=gf.cells.length:=by rw[hso.od.len];omega
 have hmb:=kp hok;have hrc0:0<=gh s*ez s:=Int.mul_nonneg byO byO;have hm:=dF (a:=s.r) (b:=s.c) (A:=200) (B:=200) byO byO byO byO byO;obtain⟨W,hW⟩:∃W:Nat,(W:Int)=s.d+s.k:=⟨(s.d+s.k).toNat,byO⟩;have hWn:(s.d+s.k).toNat=W:=byO;have hdpos:0<dk.length:=by
  have:0<s.r*s.c:=Int.mul_pos byO byO;omega
 obtain⟨bd,od,sp,cap,xs0,ed,gd,hat,hxl⟩:=hd0.els false hdpos;cases ed;have gd:=hx5.get gd;have hbl:=Heap.get_lt gd;have hod:=hso.od;rw[hWn]at hod;refine aU ?_;generalize hM:H5.length=M at *;refine aa (fun i S H'=>Ext H H'/\M<H'.length/\H'.get H.length=some [.int .i64 s.c,.int .i64 s.r,.slice (some ⟨bd,od,sp⟩) dk.length cd]/\H'.get (H.length+1)=some Sz.zero.cells/\H'.get p7=some s.cells/\H'.get q=some (bN gf.cells)/\H'.get bd=some xs0/\fH s dk i=false/\∃xs,H'.get M=some (bN xs)/\WB W (seen (exP s gf.cells dk) i) xs/\∃z0 z2 z4 z6 z7 z8 z9 z13 z14 z15 z16 z17 z18 z19 z20 z21 z22 z23 z24 z25 z26,S=[z0,.pointer (some ⟨H.length,0,none⟩),z2,.pointer (some ⟨H.length+1,0,none⟩),z4,.pointer (some ⟨p7,0,none⟩),z6,z7,z8,z9,.slice (some ⟨q,0,some 1⟩) gf.cells.length gf.cells.length,.slice (some ⟨M,0,none⟩) W W,.int .i64 (i:Nat),z13,z14,z15,z16,z17,z18,z19,z20,z21,z22,z23,z24,z25,z26]) dk.length ?_ ?_ ?_ ?_
 ·refine⟨hx5.trans (Ext.app _ _),by simp[hM],by simp(disch:=try exact dO)only[evB,xtr, *],by simp(disch:=try exact dO)only[evB,xtr, *],by simp(disch:=try exact dO)only[evB,xtr, *],by simp(disch:=try exact dO)only[evB,xtr, *],by simp(disch:=try exact dO)only[evB,xtr, *],rfl,List.replicate W 0,by rw[<-hM,aK],(WB.zero W).congr (fun v _=>rfl),_,_,_,_,_,_,_,_,_,_,_,_,_,_,_,_,_,_,_,_,_,rfl⟩
 ·rintro i S H' hi ⟨hx,hlM,f0,f1,f7,fq,fd,hbp,xs,fm,hwb,z0,z2,z4,z6,z7,z8,z9,z13,z14,z15,z16,z17,z18,z19,z20,z21,z22,z23,z24,z25,z26,rfl⟩
  exact⟨_,jS,by simp⟩
 ·rintro i S H6 hi ⟨hx6,hlM,f0,f1,f7,fq,fd,hbp,xs,fm,hwb,z0,z2,z4,z6,z7,z8,z9,z13,z14,z15,z16,z17,z18,z19,z20,z21,z22,z23,z24,z25,z26,rfl⟩
  have hati:=hat i hi;clear hat;have hiN:(i:Int)<s.r*s.c:=byO;have hrc:=l9 hok hiN;have hloc:=hso.loc i hiN;have hinj:=fun k v=>yq (gf:=gf) hsm hso (dk:=dk) (i:=i) (j:=k) (v:=v) hiN;have hsucc:=oY (s:=s) (dk:=dk) (i:=i);rw[hbp,Bool.false_or]at hsucc;have hex:=exP.eq_1 s gf.cells dk i;have hxl2:=hwb.1;generalize hrow:(i:Int).tdiv s.c=row at *;generalize hcol:(i:Int).tmod s.c=col at *;generalize hdi:dk.getD i false=di at *;have hl6:=hx6.1;clear g0 g1 g7 hgq gd;refine aU ?_;refine dH ?_;refine aA (Bw (s:=s) (row:=row) (col:=col) hok byO byO byO byO) ?_;rintro v H7 ⟨hx7,rfl⟩;have f0:=(hx7).get f0;have f1:=(hx7).get f1;have f7:=(hx7).get f7;have fq:=(hx7).get fq;have fd:=(hx7).get fd;have fm:=(hx7).get fm;have hlM:=bc₀ hlM hx7.1;have hx7:=hx6.trans hx7;have hl7:=hx7.1;have hfd:=Heap.get_lt fd;clear hrow hcol hdi hxl2;refine aU ?_;cases hB:fk s row col with
  | true=>
   rw[hB,Bool.true_and]at hsucc;rw[if_pos hB]at hex;have hbD:=Bv hB;rw[hbD];clear hbD;refine cJ ?_ ?_<;>intro h
   ·have hbad:fH s dk dk.length=true:=oX (i:=i+1) (by rw[hsucc];revert h;cases di<;>cases qg s row col<;>simp) byO
    clear h hsucc;refine aU ?_;refine dU ?_;exact⟨hx7.set byO,.inr (.inr (.inl ⟨hv,s,hf,hbad,rfl⟩))⟩
   ·have hgood:fH s dk (i+1)=false:=by rw[hsucc];revert h;cases di<;>cases qg s row col<;>simp
    clear h hsucc;(try simp only[aB]);refine cJ ?_ ?_<;>intro h
    ·simp at h
    clear h;refine aU ?_;exact⟨hx7,hlM,f0,f1,f7,fq,fd,hgood,xs,fm,hwb.congr (fun v _=>by rw[gG,hex];simp),_,_,_,_,_,_,_,_,_,_,_,_,_,_,_,_,_,_,_,_,_,ncM⟩
  | false=>
  have hloc:=hloc hB;rw[hB,Bool.false_and]at hsucc;have hnb:¬ fk s row col=true:=by rw[hB];simp
  rw[if_neg hnb]at hex;have hltI:(eO s row col).toNat<(gh s*ez s).toNat:=byO;have hlt8:=hod.lt (eO s row col).toNat hltI;have hgd:gf.cells.getD (eO s row col).toNat 0=gf.cells.getD (eO s row col).toNat (-1):=by
   simp[au₀,bb₀ (show(eO s row col).toNat<gf.cells.length by omega)]
  rw[<-hgd]at hlt8;clear hgd hnb;have hnI:(eO s row col).toNat<gf.cells.length:=byO;have hlocb:=dF (a:=gh s) (b:=ez s) (A:=40000) (B:=40000) byO byO byO byO byO;refine cJ ?_ ?_<;>intro h
  ·simp at h
  clear h;(try simp only[aB]);refine cJ ?_ ?_<;>intro h
  ·have hdt:di=true:=by simpa using h
   clear h;subst hdt;refine aU ?_;refine dH ?_;refine aA (KV (s:=s) (row:=row) (col:=col) hok byO byO byO byO byO hB) ?_;rintro v H8 ⟨hx8,rfl⟩;have f0:=(hx8).get f0;have f1:=(hx8).get f1;have f7:=(hx8).get f7;have fq:=(hx8).get fq;have fd:=(hx8).get fd;have fm:=(hx8).get fm;have hlM:=bc₀ hlM hx8.1;have hx8:=hx7.trans hx8;have hl8:=hx8.1;refine aU ?_;generalize hn:gf.cells.getD (eO s row col).toNat 0=n at *;refine cJ ?_ ?_<;>intro h
   ·have hn0:0<=n:=by simpa using h
    clear h;rw[if_pos ⟨hn0,rfl⟩]at hex;obtain⟨m,rfl⟩:=Int.eq_ofNat_of_zero_le hn0;simp only[Int.toNat_natCast]at hex;have hm8:m<8*W:=byO;have hdiv:(m:Int).tdiv 8=((m/8:Nat):Int):=by rw[Int.tdiv_eq_ediv_of_nonneg byO];rfl
    have m8:=eM (a:=(m:Int)) (m:=8) hn0 byO;have hxl:=hwb.1;have hxl2:xs.length<=W/\W<=xs.length:=byO;clear hxl;have hnew:seen (exP s gf.cells dk) i m=false:=by
     rw[Bool.eq_false_iff];intro hs;obtain⟨k,hk,hk2⟩:=BV.1 hs;have:=hinj k m byO hex hk2;omega
    have hstep:=hwb.step hm8 (y:=IntKind.i64.wrap (xs.getD (m/8) 0+IntKind.i64.wrap (1*2^(min (7-(m:Int).tmod 8).toNat IntKind.i64.bits)))) (fun x' h1 h2 h3=>by rw[h2];exact FI h1 (by rw[h3,hnew]));have hwb2:=hstep.congr (g:=seen (exP s gf.cells dk) (i+1)) (fun v _=>by rw[gG,hex];congr 1;rw[Bool.eq_iff_iff];simp[eq_comm]);have hyy:∃y,IntKind.i64.wrap (xs.getD (m/8) 0+IntKind.i64.wrap (1*2^(min (7-(m:Int).tmod 8).toNat IntKind.i64.bits)))=y:=⟨_,rfl⟩;obtain⟨y,hy⟩:=hyy;rw[hy]at hwb2;clear hex hinj hnew hstep;refine aU ?_;exact⟨hx8.set (by omega),by simp;omega,by simp(disch:=try exact dO)only[evB,xtr, *],by simp(disch:=try exact dO)only[evB,xtr, *],by simp(disch:=try exact dO)only[evB,xtr, *],by simp(disch:=try exact dO)only[evB,xtr, *],by simp(disch:=try exact dO)only[evB,xtr, *],hsucc,xs.set (m/8) y,by simp(disch:=try exact dO)only[evB,xtr, *],hwb2,_,_,_,_,_,_,_,_,_,_,_,_,_,_,_,_,_,_,_,_,_,ncM⟩
   ·have hc:¬ (0<=n/\true=true):=by simpa using h
    clear h;rw[if_neg hc]at hex;refine aU ?_;exact⟨hx8,hlM,f0,f1,f7,fq,fd,hsucc,xs,fm,hwb.congr (fun v _=>by rw[gG,hex];simp),_,_,_,_,_,_,_,_,_,_,_,_,_,_,_,_,_,_,_,_,_,ncM⟩
  ·have hdt:di=false:=by simpa using h
   clear h;subst hdt;rw[if_neg (by simp)]at hex;refine aU ?_;exact⟨hx7,hlM,f0,f1,f7,fq,fd,hsucc,xs,fm,hwb.congr (fun v _=>by rw[gG,hex];simp),_,_,_,_,_,_,_,_,_,_,_,_,_,_,_,_,_,_,_,_,_,ncM⟩
 ·rintro S H6 ⟨hx6,hlM,f0,f1,f7,fq,fd,hbp,xs,fm,hwb,z0,z2,z4,z6,z7,z8,z9,z13,z14,z15,z16,z17,z18,z19,z20,z21,z22,z23,z24,z25,z26,rfl⟩
  have hxl:=hwb.1;have hl6:=hx6.1;refine aU ?_;refine dU ?_;refine⟨hx6.set byO,.inr (.inr (.inr ⟨hv,s,gf,_,xs,hf,hso,hbp,by rw[hWn];exact hwb,rfl,?_⟩))⟩;rw[<-hxl];exact .inr ⟨M,none,_,xs,rfl,by rw[aH byO];exact fm,fun _ _=>rfl,Nat.le_refl _,Nat.le_refl _,.inl rfl⟩
end Go.Proofs.YtmnlgdpdgjbfgaaGreat
namespace Go.Proofs.YtmnlgdpdgjbfgaaGreat
open Go.Abs Go.RS
theorem F9(w u:Int)(dk:List Bool):∃(s:Sz) (xs:List Int) (k:Int),xs.length<=10000/\∀H' r,pX w u dk H' r->∃v,r=.tuple #[v,s.val,.int .i64 k]/\SlI H' v xs:=by
 by_cases h1:gJ w u dk.length=false
 ·refine⟨Sz.zero,[],1,by simp,fun H' r h=>?_⟩
  rcases h with ⟨_,e⟩|⟨h,_⟩|⟨h,_⟩|⟨h,_⟩
  ·exact⟨_,e,.inl ⟨rfl,rfl⟩⟩
  all_goals rw[h1]at h;cases h
 cases hf:fK w u with
 | none=>
  refine⟨Sz.zero,[],23,by simp,fun H' r h=>?_⟩;rcases h with ⟨h,_⟩|⟨_,_,e⟩|⟨_,s,h,_⟩|⟨_,s,_,_,_,h,_⟩
  ·exact absurd h h1
  ·exact⟨_,e,.inl ⟨rfl,rfl⟩⟩
  all_goals rw[hf]at h;cases h
 | some s=>
  by_cases hb:fH s dk dk.length=true
  ·refine⟨Sz.zero,[],18,by simp,fun H' r h=>?_⟩
   rcases h with ⟨h,_⟩|⟨_,h,_⟩|⟨_,s',h,_,e⟩|⟨_,s',_,_,_,h,_,h2,_⟩
   ·exact absurd h h1
   ·rw[hf]at h;cases h
   ·exact⟨_,e,.inl ⟨rfl,rfl⟩⟩
   ·rw[hf]at h;cases h;rw[hb]at h2;cases h2
  ·by_cases hx:∃gf xs,SizeOrd s gf/\WB (s.d+s.k).toNat (seen (exP s gf.cells dk) dk.length) xs
   ·obtain⟨gf,xs,hso,hwb⟩:=hx
    refine⟨s,xs,0,?_,fun H' r h=>?_⟩
    ·rw[hwb.1]
     obtain⟨i,hi,rfl⟩:=ll.1 (lQ hf).1;have h1:=(oa hi).d2;have h2:=(oa hi).c2;show(((dz i).d:Int)+((dz i).c:Int)).toNat<=10000;omega
    ·rcases h with ⟨h,_⟩|⟨_,h,_⟩|⟨_,s',h,h2,_⟩|⟨_,s',gf',v,ys,h,hs',_,hw',e,hwx⟩
     ·exact absurd h h1
     ·rw[hf]at h;cases h
     ·rw[hf]at h;cases h;exact absurd h2 hb
     ·rw[hf]at h;cases h
      have ee:=hso.ord;rw[hs'.ord]at ee;cases ee;have:=hw'.uniq hwb;subst this;exact⟨v,e,hwx.sli⟩
   ·refine⟨Sz.zero,[],0,by simp,fun H' r h=>?_⟩
    rcases h with ⟨h,_⟩|⟨_,h,_⟩|⟨_,s',h,h2,_⟩|⟨_,s',gf',v,ys,h,hs',_,hw',e,hwx⟩
    ·exact absurd h h1
    ·rw[hf]at h;cases h
    ·rw[hf]at h;cases h;exact absurd h2 hb
    ·rw[hf]at h;cases h
     exact absurd ⟨gf',ys,hs',hw'⟩ hx
def mU(k1 k2 n:Int)(L:List Int):Int×Int×List UInt8:=
 if k1≠0 then(0,k1,[]) else if k2≠0 then(0,k2,[]) else match vS L with
 | .inl e=>(0,e,[])
 | .inr p=>(n,0,p)
section
variable {lo:Nat}{H:Heap}{vd:Value}{dk:List Bool}{w u:Int}{s:Sz}{xs L:List Int}{k1 n k2:Int}
namespace XKh
def xtr:=zzi @Sz.cells.eq_1 (zzi @Sz.val.eq_1 (zzi @Int.cast_ofNat_Int @ite_self.{1}))
end XKh
open XKh
theorem Q5(hd:SlB H vd dk)(hlo:lo<=H.length)(hL:L.length<=10000)
  (he:∀H' r,pX w u dk H' r->∃v,r=.tuple #[v,s.val,.int .i64 k1]/\SlI H' v xs)
  (hc:∀(H:Heap) (v:Value),SlI H v xs->lo<=H.length->Ev cp lo 16 [v,s.val] H (fun r H'=>Ext H H'/\∃vo,r=.tuple #[vo,.int .i64 n,.int .i64 k2]/\SlI H' vo L)) :
  Ev cp lo 21 [.agg #[.int .i64 w,.int .i64 u,vd]] H (fun r H'=>Ext H H'/\∃v,r=.tuple #[v,.int .i64 (mU k1 k2 n L).1,.int .i64 (mU k1 k2 n L).2.1]/\SlU H' v (mU k1 k2 n L).2.2):=by
 have hext:=fun(K:Heap) (h1:lo<=K.length) (h2:Ext H K)=>A7 (lo:=lo) (H:=K) (vd:=vd) (dk:=dk) (w:=w) (u:=u) h1 (hd.mono h2);obtain⟨sr,sc,srr,src,sd,sk,sb⟩:=s;obtain⟨ad,c0,rfl⟩:=hd.len;have hnil:∀K:Heap,SlU K (.slice none 0 0) []:=fun K=>.inl ⟨rfl,rfl⟩;clear hd;replace hext:False\/_:=.inr hext;replace hc:False\/_:=.inr hc;replace he:False\/_:=.inr he;replace hnil:False\/_:=.inr hnil;obtain⟨D,hD⟩:∃D,mU k1 k2 n L=D:=⟨_,rfl⟩;rw[hD];replace hD:False\/_:=.inr hD;refine stG rfl rfl ?_;unfold Mp;simp only[kB,aB];refine iy ?_;refine uu ?_;refine aA (hext.resolve_left id _ (by simp;omega) (Ext.app _ _)) ?_;rintro r H1 ⟨hx1,ho⟩;obtain⟨v,rfl,hv⟩:=he.resolve_left id _ _ ho;have hx1:=hx1.of_app;have hl1:=hx1.1;obtain⟨av,cv,rfl⟩:=hv.len;clear he hext ho;refine iy ?_;have g6:Heap.get (H1++[some [Value.int .i64 sr,.int .i64 sc,.int .i64 srr,.int .i64 src,.int .i64 sd,.int .i64 sk,.int .i64 sb]]) H1.length=some [Value.int .i64 sr,.int .i64 sc,.int .i64 srr,.int .i64 src,.int .i64 sd,.int .i64 sk,.int .i64 sb]:=aK;have hE:=Ext.app H1 [some [Value.int .i64 sr,.int .i64 sc,.int .i64 srr,.int .i64 src,.int .i64 sd,.int .i64 sk,.int .i64 sb]];have hv:=hv.mono hE;have hx2:=hx1.trans hE;have hl2:=hx2.1;clear hE hx1;generalize H1++[some [Value.int .i64 sr,.int .i64 sc,.int .i64 srr,.int .i64 src,.int .i64 sd,.int .i64 sk,.int .i64 sb]]=K at *;generalize H1.length=b1 at *;have hc2:=hc.resolve_left id K _ hv byO;clear hv hc;by_cases h1:k1=0;rotate_left
 ·have hd:decide (k1≠0)=true:=decide_eq_true h1
  have hD:=hD.resolve_left id;unfold mU at hD;rw[if_pos h1]at hD;subst hD;refine oU ?_ ?_<;>intro h
  ·clear h
   refine iy ?_;refine rl ?_;exact⟨hx2,_,rfl,hnil.resolve_left id _⟩
  ·exfalso;first|(rw[hd]at h;cases h)|(simp at h;done)|cases h
 subst h1;refine oU ?_ ?_<;>intro h
 ·simp at h
 clear h;(try simp only[aB]);refine uu ?_;refine aA hc2 ?_;rintro r H3 ⟨hx3,vo,rfl,hvo⟩;clear hc2 g6;have hx3:=hx2.trans hx3;have hl3:=hx3.1;have hd3:=Q6 (lo:=lo) hvo byO byO;refine iy ?_;by_cases h2:k2=0;rotate_left
 ·have hd:decide (k2≠0)=true:=decide_eq_true h2
  have hD:=hD.resolve_left id;unfold mU at hD;rw[if_neg (by simp),if_pos h2]at hD;subst hD;clear hd3;refine oU ?_ ?_<;>intro h
  ·clear h
   refine iy ?_;refine rl ?_;exact⟨hx3,_,rfl,hnil.resolve_left id _⟩
  ·exfalso;first|(rw[hd]at h;cases h)|(simp at h;done)|cases h
 subst h2;refine oU ?_ ?_<;>intro h
 ·simp at h
 clear h;have hD2:=hD.resolve_left id;unfold mU at hD2;rw[if_neg (by simp),if_neg (by simp)]at hD2;clear hD hx2;(try simp only[aB]);refine uu ?_;refine aA hd3 ?_;rintro r H4 ⟨hx4,hu⟩;clear hd3;have hx4:=hx3.trans hx4;cases hdt:vS L with
 | inl e=>
  rw[hdt]at hu hD2;obtain⟨rfl,he0⟩:=hu;simp only at hD2;subst hD2;have hd:decide ((e:Int)≠0)=true:=decide_eq_true byO;refine iy ?_;refine oU ?_ ?_<;>intro h
  ·clear h
   refine iy ?_;refine rl ?_;exact⟨hx4,_,rfl,hnil.resolve_left id _⟩
  ·exfalso;first|(rw[hd]at h;cases h)|cases h
 | inr p=>
  rw[hdt]at hu hD2;obtain⟨vu,rfl,hu⟩:=hu;simp only at hD2;subst hD2;refine iy ?_;refine oU ?_ ?_<;>intro h
  ·simp at h
  clear h;refine iy ?_;refine rl ?_;exact⟨hx4,_,rfl,hu⟩
theorem Q7(hd:SlB H vd dk)(hlo:lo<=H.length)(hL:L.length<=10000)
  (he:∀H' r,pX w u dk H' r->∃v,r=.tuple #[v,s.val,.int .i64 k1]/\SlI H' v xs)
  (hc:∀(H:Heap) (v:Value),SlI H v xs->lo<=H.length->Ev cp lo 17 [v,s.val] H (fun r H'=>Ext H H'/\∃vo,r=.tuple #[vo,.int .i64 n,.int .i64 k2]/\SlI H' vo L)) :
  Ev cp lo 22 [.agg #[.int .i64 w,.int .i64 u,vd]] H (fun r H'=>Ext H H'/\∃v,r=.tuple #[v,.int .i64 (mU k1 k2 n L).1,.int .i64 (mU k1 k2 n L).2.1]/\SlU H' v (mU k1 k2 n L).2.2):=by
 have hext:=fun(K:Heap) (h1:lo<=K.length) (h2:Ext H K)=>A8 (lo:=lo) (H:=K) (vd:=vd) (dk:=dk) (w:=w) (u:=u) h1 (hd.mono h2);obtain⟨sr,sc,srr,src,sd,sk,sb⟩:=s;obtain⟨ad,c0,rfl⟩:=hd.len;have hnil:∀K:Heap,SlU K (.slice none 0 0) []:=fun K=>.inl ⟨rfl,rfl⟩;clear hd;replace hext:False\/_:=.inr hext;replace hc:False\/_:=.inr hc;replace he:False\/_:=.inr he;replace hnil:False\/_:=.inr hnil;obtain⟨D,hD⟩:∃D,mU k1 k2 n L=D:=⟨_,rfl⟩;rw[hD];replace hD:False\/_:=.inr hD;refine stG rfl rfl ?_;unfold Mq;simp only[kB,aB];refine iy ?_;refine uu ?_;refine aA (hext.resolve_left id _ (by simp;omega) (Ext.app _ _)) ?_;rintro r H1 ⟨hx1,ho⟩;obtain⟨v,rfl,hv⟩:=he.resolve_left id _ _ ho;have hx1:=hx1.of_app;have hl1:=hx1.1;obtain⟨av,cv,rfl⟩:=hv.len;clear he hext ho;refine iy ?_;have g6:Heap.get (H1++[some [Value.int .i64 sr,.int .i64 sc,.int .i64 srr,.int .i64 src,.int .i64 sd,.int .i64 sk,.int .i64 sb]]) H1.length=some [Value.int .i64 sr,.int .i64 sc,.int .i64 srr,.int .i64 src,.int .i64 sd,.int .i64 sk,.int .i64 sb]:=aK;have hE:=Ext.app H1 [some [Value.int .i64 sr,.int .i64 sc,.int .i64 srr,.int .i64 src,.int .i64 sd,.int .i64 sk,.int .i64 sb]];have hv:=hv.mono hE;have hx2:=hx1.trans hE;have hl2:=hx2.1;clear hE hx1;generalize H1++[some [Value.int .i64 sr,.int .i64 sc,.int .i64 srr,.int .i64 src,.int .i64 sd,.int .i64 sk,.int .i64 sb]]=K at *;generalize H1.length=b1 at *;have hc2:=hc.resolve_left id K _ hv byO;clear hv hc;by_cases h1:k1=0;rotate_left
 ·have hd:decide (k1≠0)=true:=decide_eq_true h1
  have hD:=hD.resolve_left id;unfold mU at hD;rw[if_pos h1]at hD;subst hD;refine oU ?_ ?_<;>intro h
  ·clear h
   refine iy ?_;refine rl ?_;exact⟨hx2,_,rfl,hnil.resolve_left id _⟩
  ·exfalso;first|(rw[hd]at h;cases h)|(simp at h;done)|cases h
 subst h1;refine oU ?_ ?_<;>intro h
 ·simp at h
 clear h;(try simp only[aB]);refine uu ?_;refine aA hc2 ?_;rintro r H3 ⟨hx3,vo,rfl,hvo⟩;clear hc2 g6;have hx3:=hx2.trans hx3;have hl3:=hx3.1;have hd3:=Np (lo:=lo) hvo byO byO;refine iy ?_;by_cases h2:k2=0;rotate_left
 ·have hd:decide (k2≠0)=true:=decide_eq_true h2
  have hD:=hD.resolve_left id;unfold mU at hD;rw[if_neg (by simp),if_pos h2]at hD;subst hD;clear hd3;refine oU ?_ ?_<;>intro h
  ·clear h
   refine iy ?_;refine rl ?_;exact⟨hx3,_,rfl,hnil.resolve_left id _⟩
  ·exfalso;first|(rw[hd]at h;cases h)|(simp at h;done)|cases h
 subst h2;refine oU ?_ ?_<;>intro h
 ·simp at h
 clear h;have hD2:=hD.resolve_left id;unfold mU at hD2;rw[if_neg (by simp),if_neg (by simp)]at hD2;clear hD hx2;(try simp only[aB]);refine uu ?_;refine aA hd3 ?_;rintro r H4 ⟨hx4,hu⟩;clear hd3;have hx4:=hx3.trans hx4;cases hdt:vS L with
 | inl e=>
  rw[hdt]at hu hD2;obtain⟨rfl,he0⟩:=hu;simp only at hD2;subst hD2;have hd:decide ((e:Int)≠0)=true:=decide_eq_true byO;refine iy ?_;refine oU ?_ ?_<;>intro h
  ·clear h
   refine iy ?_;refine rl ?_;exact⟨hx4,_,rfl,hnil.resolve_left id _⟩
  ·exfalso;first|(rw[hd]at h;cases h)|cases h
 | inr p=>
  rw[hdt]at hu hD2;obtain⟨vu,rfl,hu⟩:=hu;simp only at hD2;subst hD2;refine iy ?_;refine oU ?_ ?_<;>intro h
  ·simp at h
  clear h;refine iy ?_;refine rl ?_;exact⟨hx4,_,rfl,hu⟩
theorem GA{H:Heap}{vd:Value}{dk:List Bool}{w u:Int}(hd:SlB H vd dk):Ev cp H.length 6 [.agg #[.int .i64 w,.int .i64 u,vd]] H (fun r _=>r=.bool true):=by
 obtain⟨s,xs,k1,hxl,he⟩:=F9 w u dk;obtain⟨L,n,k2,hL,hP,hV⟩:=CV (lo:=H.length) (s:=s) (l:=xs) byO;have hA:=fun(K:Heap) (h:Ext H K)=>Q5 (H:=K) (lo:=H.length) (hd.mono h) h.1 hL he hP;have hB:=fun(K:Heap) (h:Ext H K)=>Q7 (H:=K) (lo:=H.length) (hd.mono h) h.1 hL he hV;generalize mU k1 k2 n L=D at *;obtain⟨n,k,p⟩:=D;simp only at hA hB;obtain⟨ad,c0,rfl⟩:=hd.len;clear he hP hV hd;replace hA:False\/_:=.inr hA;replace hB:False\/_:=.inr hB;refine stG rfl rfl ?_;unfold bd6;simp only[kB,aB];refine iy ?_;have hE:=Ext.app H [some [Value.int .i64 w,.int .i64 u,.slice ad dk.length c0]];have g0:Heap.get (H++[some [Value.int .i64 w,.int .i64 u,.slice ad dk.length c0]]) H.length=some [Value.int .i64 w,.int .i64 u,.slice ad dk.length c0]:=aK;generalize H++[some [Value.int .i64 w,.int .i64 u,.slice ad dk.length c0]]=K at *;have hl1:=hE.1;refine oU ?_ ?_<;>intro h
 ·clear h
  (try simp only[aB]);refine uu ?_;refine aA (yp byO) ?_;rintro r K ⟨hx,rfl⟩;refine iy ?_;refine rl ?_;rfl
 clear h;have hA2:=hA.resolve_left id K hE;clear hA;(try simp only[aB]);refine uu ?_;refine aA hA2 ?_;rintro r K1 ⟨hx1,v1,rfl,hv1⟩;clear hA2;have g0:=hx1.get g0;have hx1:=hE.trans hx1;have hl1:=hx1.1;have hB2:=hB.resolve_left id K1 hx1;clear hB;refine iy ?_;refine uu ?_;refine aA hB2 ?_;rintro r K2 ⟨hx2,v2,rfl,hv2⟩;clear hB2;have hv1:=hv1.mono hx2;have hx2:=hx1.trans hx2;have hl2:=hx2.1;have b1:=Bp hv1;have b2:=Bp hv2;have b3:aJ (.bin .eql) [BY p,BY p] K2=some (.bool true):=by rw[As];simp
 clear hv1 hv2;generalize BY p=sp at *;refine iy ?_;refine SR ?_;refine aA (yp byO) ?_;rintro r K ⟨hx,rfl⟩;refine iy ?_;refine rl ?_;rfl
end
open Go.Abs
theorem own:ownKnob Tryz.prog.godebug=none:=by kernel_rfl
theorem laidOut:laidOutB Tryz.prog=true:=by kernel_rfl
theorem BA:Tryz.prog.globals.size=0:=by kernel_rfl
end Go.Proofs.YtmnlgdpdgjbfgaaGreat
