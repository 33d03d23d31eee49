/- Lemmas. -/
import Derived.Test.YtmnlgdpdgjbfgaaGreatD10
import Derived.Test.YtmnlgdpdgjbfgaaGreatD23
set_option linter.all false
namespace Go.Proofs.YtmnlgdpdgjbfgaaGreat
open Go.Abs Go.RS
variable{H:Heap}{lo:Nat}
set_option maxRecDepth 20000
section
variable {f:FD}[OkC f]
structure DivR (p q R:List (El f))(Q:Ser (El f))(m:Nat):Prop where
 len:R.length=p.length
 eq:∀k,co p k=cv Q (co q) k+co R k
 top:∀k,m<=k->co R k=0
 qz:∀k,p.length<=k->Q k=0
open XPa
end
def cdI(ch sz po r b:Int):Value:=.agg #[.int .i64 ch,.int .i64 sz,.int .i64 po,.int .i64 r,.int .i64 b]
def mq(ch sz po r b:Int):Prop:=(∃f,OkF ch sz po f)/\1<=r/\r<=sz-2/\0<=b/\b<=sz-2
theorem uQ{ch sz po:Int}(h:∃f,OkF ch sz po f):2<=sz/\sz<=4096:=by
 obtain⟨f,hf,h1,_⟩:=h;have:=hf.two;omega
namespace XRa
def xtr:=zzi @Int.cast_ofNat_Int (zzi @fv.eq_1 (zzi @fvf.eq_1 (zzi @ite_self.{1} (zzi @ic (zzi @iZ @iY)))))
end XRa
open XRa
theorem fits{ch sz po r b:Int}(hs:-9223372036854775000<=sz)(hs2:sz<=9223372036854775807):Ev cp lo 101 [fv ch sz po,.int .i64 r,.int .i64 b] H (fun v H'=>Ext H H'/\v=.bool (((decide (1<=r)&&decide (r<=sz-2))&&decide (0<=b))&&decide (b<=sz-2))):=by
 unfold fv;refine stG rfl rfl ?_;unfold Hk;simp only[kB,aB];refine aC ?_;refine aT ?_;exact⟨Ext.app _ _,rfl⟩
set_option maxHeartbeats 1000000 in
theorem HL{ch sz po r b:Int}{v:Value}{l:List Int}(hb:po<=9223372036854775807)(hl:SlI H v l)(hll:l.length<=9223372036854775807):Ev cp lo 58 [cdI ch sz po r b,v] H (fun v H'=>Ext H H'/\∃t,v=.bool t/\(t=true↔mq ch sz po r b/\inF sz l=true)):=by
 have hl0:=hl;obtain⟨ad,c,rfl⟩:=hl.len;unfold cdI;refine stG rfl rfl ?_;unfold NK;simp only[kB,aB];refine aC ?_;refine aQ ?_;refine aA (valid (ch:=ch) (sz:=sz) (po:=po) hb) ?_;rintro v H1 ⟨hx1,t1,rfl,ht1⟩;have g0:H1.get H.length=some _:=hx1.get aW;have hx1:=hx1.of_app;cases t1 with
 | false=>
  have hnf:¬ ∃f,OkF ch sz po f:=fun h=>by have:=ht1.2 h;cases this
  (try simp only[aB]);refine bP (t:=false) aW gZ nh (fun h=>by cases h) (fun _=>?_);(try simp only[aB]);refine bP (t:=false) aW gZ nh (fun h=>by cases h) (fun _=>?_);refine aC ?_;refine aT ?_;exact⟨hx1,false,rfl,by simp;intro h;exact absurd h.1 hnf⟩
 | true=>
  have hf:=ht1.1 rfl;have hsz:=uQ hf;(try simp only[aB]);refine bP (t:=true) aW gZ nh (fun _=>⟨_,aW,?_⟩) (fun h=>by cases h);refine aA (fits (ch:=ch) (sz:=sz) (po:=po) (r:=r) (b:=b) byO byO) ?_;rintro v H2 ⟨hx2,rfl⟩;have g0:=hx2.get g0;have hx2:=hx1.trans hx2;generalize ht2:(((decide (1<=r)&&decide (r<=sz-2))&&decide (0<=b))&&decide (b<=sz-2))=t2;have ht2':t2=true↔1<=r/\r<=sz-2/\0<=b/\b<=sz-2:=by
   rw[<-ht2];simp only[ac₀,af₀];omega
  clear ht2;cases t2 with
  | false=>
   have hnf:¬ (1<=r/\r<=sz-2/\0<=b/\b<=sz-2):=fun h=>by have:=ht2'.2 h;cases this
   (try simp only[aB]);refine bP (t:=false) aW gZ nh (fun h=>by cases h) (fun _=>?_);refine aC ?_;refine aT ?_;exact⟨hx2,false,rfl,by simp;intro h;exact absurd h.2 hnf⟩
  | true=>
   (try simp only[aB]);refine bP (t:=true) aW gZ nh (fun _=>⟨_,aW,?_⟩) (fun h=>by cases h);refine aA (A4 (ch:=ch) (sz:=sz) (po:=po) (hl0.mono hx2) hll) ?_;rintro v H3 ⟨hx3,rfl⟩;refine aC ?_;refine aT ?_;exact⟨hx2.trans hx3,inF sz l,rfl,⟨fun h=>⟨⟨hf,ht2'.1 rfl⟩,h⟩,fun h=>h.2⟩⟩
theorem Qy{ch sz po r b n:Int}:Ev cp lo 59 [cdI ch sz po r b,.int .i64 n] H (fun v H'=>Ext H H'/\v=.bool (decide (r<n)&&decide (n<sz))):=by
 unfold cdI;refine stG rfl rfl ?_;unfold NL;simp only[kB,aB];refine aC ?_;refine aT ?_;exact⟨Ext.app _ _,rfl⟩
theorem EG{ch sz po r b:Int}(hs2:sz<=9223372036854775807):Ev cp lo 64 [cdI ch sz po r b] H (fun v H'=>Ext H H'/\∃t,v=.bool t/\(t=true↔mq ch sz po r b)):=by
 unfold cdI;refine stG rfl rfl ?_;unfold NM;simp only[kB,aB];refine aC ?_;refine aQ ?_;refine aA (EU (ch:=ch) (sz:=sz) (po:=po) hs2) ?_;rintro v H1 ⟨hx1,t1,rfl,ht1⟩;have g0:H1.get H.length=some _:=hx1.get aW;have hx1:=hx1.of_app;cases t1 with
 | false=>
  refine aC ?_;refine aT ?_;refine⟨hx1,false,rfl,?_⟩;simp only[ah₀,false_iff]at ht1 ⊢;exact fun h=>ht1 h.1
 | true=>
 have hbd:=uQ (ht1.1 rfl);generalize ht:true=t1 at ht1;refine aC ?_;refine aT ?_;refine⟨hx1,_,rfl,?_⟩;subst ht;simp only[ac₀,af₀,ht1.1 rfl,true_and,mq];constructor
 ·rintro⟨⟨⟨b,c⟩,d⟩,e⟩;exact⟨b,c,d,e⟩
 ·rintro⟨b,c,d,e⟩;exact⟨⟨⟨b,c⟩,d⟩,e⟩
theorem BO{ch sz po:Int}{v:Value}{l:List Int}(hl:SlI H v l)(hll:l.length<=9223372036854775807):Ev cp lo 65 [fv ch sz po,v] H (fun v H'=>Ext H H'/\v=.bool (inF sz l)):=by
 have hl0:=hl;obtain⟨ad,c,rfl⟩:=hl.len;unfold fv;refine stG rfl rfl ?_;unfold NN;simp only[kB,aB];refine aC ?_;generalize hG:H++_=G at *;have g0:G.get H.length=some [.int .i64 ch,.int .i64 sz,.int .i64 po]:=by rw[<-hG];exact aK
 have hxG:Ext H G:=by rw[<-hG];exact Ext.app _ _
 clear hG;refine aa (fun i S H'=>Ext G H'/\inF sz (l.take i)=true/\∃(z:Nat->Value),S=[z 0,.slice ad l.length c,.pointer (some ⟨H.length,0,none⟩),.bool false,.int .i64 (i:Nat),z 5]) l.length ?_ ?_ ?_ ?_
 ·exact⟨Ext.refl _,rfl,aR rfl⟩
 ·rintro i S H' hi ⟨hx,-,z,rfl⟩
  exact⟨_,aW,by simp⟩
 ·rintro i S H1 hi ⟨hx,hin,z,rfl⟩
  obtain⟨b,o,sp,cap,xs,e,gx,hat,hxl⟩:=hl0.els 0 byO;cases e;have gx:=(hxG.trans hx).get gx;have g0:=hx.get g0;have hati:=hat i hi;have hs:=gK (p:=fun x=>!(decide (x<0) || decide (sz<=x))) hi;clear hat;(try simp only[aB]);refine aQ ?_;refine aA (ris (ch:=ch) (sz:=sz) (po:=po) (x:=l.getD i 0)) ?_;rintro v H2 ⟨hx2,rfl⟩;have hx2:=hx.trans hx2;have hneg:(!(decide (l.getD i 0<0) || decide (sz<=l.getD i 0)))=(decide (0<=l.getD i 0)&&decide (l.getD i 0<sz)):=by
   rw[Bool.eq_iff_iff];simp
  rw[hneg]at hs;clear hneg;(try simp only[aB]);refine aS ?_ ?_<;>intro h
  ·have hno:inF sz l=false:=by
    rw[Bool.eq_false_iff];intro hin2;have:=lS.1 hin2 (l.getD i 0) (by rw[au₀,bb₀ hi];exact List.getElem_mem hi);simp at h;simp at this;omega
   clear h hs;refine aC ?_;refine aT ?_;exact⟨hxG.trans hx2,by rw[hno];rfl⟩
  ·have hin2:inF sz (l.take (i+1))=true:=by
    have h:(decide (0<=l.getD i 0)&&decide (l.getD i 0<sz))=true:=by simpa using h
    unfold inF at hin ⊢;rw[hs,hin,h];rfl
   clear h hs;refine aC ?_;exact⟨hx2,hin2,aR ncM⟩
 ·rintro S H1 ⟨hx,hin,z,rfl⟩
  rw[List.take_of_length_le (Nat.le_refl _)]at hin;refine aC ?_;refine aT ?_;exact⟨hxG.trans hx,by rw[hin];rfl⟩
end Go.Proofs.YtmnlgdpdgjbfgaaGreat
namespace Go.Proofs.YtmnlgdpdgjbfgaaGreat
open Go.Abs Go.RS
section
variable {ch sz po r b:Int}{v:Value}{l:List Int}{lo:Nat}{H:Heap}
end
section
variable {f:FD}[OkC f]
theorem zu{H:Heap}{v:Value}{l:List (El f)}(h:SlI H v (ml l)):SlE H v l:=by
 rcases h with ⟨h1,h2⟩|⟨b,o,sp,cap,xs,h1,h2,h3,h4⟩
 ·exact .inl ⟨h1,by simpa[ml]using h2⟩
 ·refine .inr ⟨b,o,sp,cap,xs,by rw[h1];simp[ml],h2,?_,by simpa[ml]using h4⟩
  simp only[ml,ay₀,List.map_map]at h3;exact h3
structure CdOK (f:FD)(r b:Nat):Prop where
 r1:1<=r
 r2:r<=f.q-2
 b2:b<=f.q-2
theorem zX{r b:Nat}(h:CdOK f r b):mq (FD.ch f) f.q f.poly r b:=by
 have h2:=qle (f:=f);obtain⟨a,b,c⟩:=h;exact⟨qk (OkC.ok (f:=f)),byO,byO,byO,byO⟩
namespace XRb
def xtr:=zzi @Int.cast_ofNat_Int (zzi @fv.eq_1 (zzi @fvf.eq_1 (zzi @ite_self.{1} (zzi @ic (zzi @iZ (zzi @iY (zzi @cdC.eq_1 (zzi @arC.eq_1 (zzi @iU (zzi @bq (zzi @eQ @fj)))))))))))
end XRb
open XRb
end
open Go.Abs Go.RS
section
variable {f:FD}[OkC f]
structure IsEnc (g:El f)(r b:Nat)(d w:List (El f)):Prop where
 len:w.length=d.length+r
 dat:∀i,i<d.length->co w i=co d i
 cw:QO (fun i=>pw g (b+i)) r w
open XRb
end
end Go.Proofs.YtmnlgdpdgjbfgaaGreat
