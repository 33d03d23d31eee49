/- Lemmas. -/
import Derived.Test.YtmnlgdpdgjbfgaaGreatF9
import Derived.Test.YtmnlgdpdgjbfgaaGreatF10
import Derived.Test.YtmnlgdpdgjbfgaaGreatF11
import Derived.Test.YtmnlgdpdgjbfgaaGreatF14
import Derived.Test.YtmnlgdpdgjbfgaaGreatF15
import Derived.Test.YtmnlgdpdgjbfgaaGreatF16
import Derived.Test.YtmnlgdpdgjbfgaaGreatF17
import Derived.Test.YtmnlgdpdgjbfgaaGreatF18
set_option linter.all false
namespace Go.Proofs.YtmnlgdpdgjbfgaaGreat
open Go.Abs
variable{H:Heap}{lo:Nat}
structure Grd (H:Heap)(p q:Nat)(R C:Int)(g:G):Prop where
 fp:H.get p=some [.int .i64 R,.int .i64 C,.int .i64 g.next,.slice (some ⟨q,0,some 1⟩) g.cells.length g.cells.length]
 fq:H.get q=some (aW g.cells)
 ne:p≠q
theorem Grd.mono{H H':Heap}{p q:Nat}{R C:Int}{g:G}(h:Grd H p q R C g)(e:Ext H H'):Grd H' p q R C g:=⟨e.get h.fp,e.get h.fq,h.ne⟩
theorem Grd.setq{H:Heap}{p q:Nat}{R C:Int}{g g':G}(h:Grd H p q R C g)(hl:g'.cells.length=g.cells.length)(hn:g'.next=g.next):Grd (H.set q (some (aW g'.cells))) p q R C g':=
 ⟨by rw[aI (fun e=>h.ne e.symm),h.fp,hl,hn],by rw[aG (Heap.get_lt h.fq)],h.ne⟩
open XJWfit
theorem EB{p q:Nat}{R C:Int}{g g':G}{r c b:Int}(hd:Dim R C)(hf:Grd H p q R C g)(hlo:lo<=q)(hb:0<=b/\b<=7)(h:(a0 R C).asg g r c b=some g') :
  Ev cp lo 202 [.pointer (some ⟨p,0,none⟩),.int .i64 r,.int .i64 c,.int .i64 b] H (fun _ H'=>H'=H.set q (some (aW g'.cells))):=by
 obtain⟨b1,b2,b3,b4,b5,b6,b7,b8,rfl⟩:=ni h;obtain⟨r0,r1,c0,c1⟩:=hd;have fp:=hf.fp;have fq:=hf.fq;have m1:=eM (a:=R+4) (m:=8) byO byO;have m2:=eM (a:=C+4) (m:=8) byO byO;have hql:=Heap.get_lt fq;have hl:=eE g.cells;refine stG rfl rfl ?_;unfold Lf;simp only[kB,aD];refine eG (fun S' H'=>H'=H/\S'=[.pointer (some ⟨p,0,none⟩),.int .i64 (if r<0 then r+R else r),.int .i64 (if r<0 then c+(4-(R+4).tmod 8) else c),.int .i64 b]) ?_ ?_
 ·refine aP ?_ ?_<;>intro h
  ·have hr:r<0:=by simpa using h
   refine aA ?_;exact⟨by trivial,by simp(disch:=try exact dO)only[evB,xtr,Nat.reduceAdd,Nat.reduceBEq,Int.reduceToNat, *];simp only[show ∀x y:Int,x+4-y=x+(4-y) from fun x y=>by omega]⟩
  ·have hr:¬ r<0:=by simpa using h
   (try simp only[aD]);exact⟨by trivial,by simp only[if_neg hr]⟩
 rintro S' H' ⟨rfl,rfl⟩;(try simp only[aD]);generalize hr1:(if r<0 then r+R else r)=ra;generalize hc1:(if r<0 then c+(4-(R+4).tmod 8) else c)=ca;have bra:-4000<=ra/\ra<=4200:=by subst hr1;split<;>omega
 have bca:-4010<=ca/\ca<=4010:=by subst hc1;split<;>omega
 refine eG (fun S' H''=>H''=H'/\S'=[.pointer (some ⟨p,0,none⟩),.int .i64 (if ca<0 then ra+(4-(C+4).tmod 8) else ra),.int .i64 (if ca<0 then ca+C else ca),.int .i64 b]) ?_ ?_
 ·refine aP ?_ ?_<;>intro h
  ·have hr:ca<0:=by simpa using h
   refine aA ?_;exact⟨by trivial,by simp(disch:=try exact dO)only[evB,xtr,Nat.reduceAdd,Nat.reduceBEq,Int.reduceToNat, *];simp only[show ∀x y:Int,x+4-y=x+(4-y) from fun x y=>by omega]⟩
  ·have hr:¬ ca<0:=by simpa using h
   (try simp only[aD]);exact⟨by trivial,by simp only[if_neg hr]⟩
 rintro S' H'' ⟨rfl,rfl⟩;have hi:(if ca<0 then ra+(4-(C+4).tmod 8) else ra)*C+(if ca<0 then ca+C else ca)=iE R C r c:=by subst hr1 hc1;rfl
 generalize hr2:(if ca<0 then ra+(4-(C+4).tmod 8) else ra)=rb at *;generalize hc2:(if ca<0 then ca+C else ca)=cb at *;have brb:-4010<=rb/\rb<=4210:=by subst hr2;split<;>omega
 have bcb:-4010<=cb/\cb<=4210:=by subst hc2;split<;>omega
 have hm:=dV (a:=rb) (b:=C) (A:=5000) (B:=200) byO byO byO c1 byO;generalize iE R C r c=i at *;refine aA ?_;refine dR (by simp(disch:=try exact dO)only[evB,xtr,Nat.reduceAdd,Nat.reduceBEq,Int.reduceToNat, *];rfl) ?_;rfl
theorem DW(l:List (Int×Int)):∀(k:Nat),k<l.length->(dH l)[2*k]?=some (.int .i64 (l.getD k (0,0)).1)/\(dH l)[2*k+1]?=some (.int .i64 (l.getD k (0,0)).2):=by
 induction l with
 | nil=>intro i h;simp at h
 | cons s l ih=>
  intro i h;have e:dH (s::l)=.int .i64 s.1::.int .i64 s.2::dH l:=rfl;cases i with
  | zero=>rw[e];exact⟨rfl,rfl⟩
  | succ i=>
   have:=ih i (by simpa using h);rw[e,show 2*(i+1)=2*i+1+1 by omega,show 2*i+1+1+1=(2*i+1)+1+1 by omega];simp only[List.getElem?_cons_succ];simpa using this
theorem Ed{p q:Nat}{R C:Int}{g g':G}{l:List (Int×Int)}(hl8:l.length=8)(hd:Dim R C)(hf:Grd H p q R C g)(hlp:lo<=p)(hlo:lo<=q)(h:jU (a0 R C) g l=some g') :
  Ev cp lo 181 [.pointer (some ⟨p,0,none⟩),.agg (dH l).toArray] H (fun _ H'=>Grd H' p q R C g'/\Ch p q H H'):=by
 unfold jU at h;split at h
 ·rename_i g2 hg
  cases h;have hpl:=Heap.get_lt hf.fp;have hql:=Heap.get_lt hf.fq;have hpv:=ua l;rw[hl8]at hpv;refine stG rfl rfl ?_;unfold LZ;simp only[kB,aD];refine aA ?_;refine aY (fun m S H'=>∃(k:Nat) (g1:G),k<=8/\m=8-k/\S=[.pointer (some ⟨p,0,none⟩),.agg (dH l).toArray,.pointer (some ⟨H.length,0,none⟩),.int .i64 k]/\Grd H' p q R C g1/\Ch p q H H'/\H'.get H.length=some (dH l)/\goG (a0 R C) g1 (l.drop k) k=some g2) 8 ?_ ?_
  ·exact⟨0,g,by omega,by omega,rfl,hf.mono (Ext.app _ _),Ch.app _ _,by simp(disch:=try exact dO)only[evB,xtr,Nat.reduceAdd,Nat.reduceBEq,Int.reduceToNat, *],by simpa using hg⟩
  rintro m S H1 ⟨k,g1,hk,rfl,rfl,hf1,hch,hbox,hgo⟩;have hlen1:=hch.len;(try simp only[aD]);refine aP ?_ ?_<;>intro h
  ·have hk8:k<8:=by simp at h;omega
   clear h;have hpg:=DW l k byO;have e1:(2*(k:Int)).toNat=2*k:=byO;have e2:(2*(k:Int)+1).toNat=2*k+1:=byO;rw[lN byO]at hgo;simp only[goG]at hgo;split at hgo
   ·rename_i g3 ha
    refine bF ?_;refine aC (EB (q:=q) hd hf1 hlo byO ha) ?_;rintro v H2 rfl;refine aA ?_;simp only[ak];have hlq:=vD ha;refine⟨8-(k+1),byO,k+1,g3,byO,rfl,by simp only[ap₀,Int.natCast_one],hf1.setq hlq.1 hlq.2,hch.trans (Ch.setq _ _),by rw[aI byO];exact hbox,by simpa using hgo⟩
   ·simp at hgo
  ·have hk8:k=8:=by simp at h;omega
   subst hk8;rw[List.drop_of_length_le byO]at hgo;simp only[goG]at hgo;cases hgo;have fp:=hf1.fp;have hplen:=Heap.get_lt fp;have hnx:=qi hg;have hnb:=hnx.2.2 (by intro e;rw[e]at hl8;simp at hl8);rw[<-hnx.2.1]at hnb;clear hnx;refine aA ?_;refine dR (by simp(disch:=try exact dO)only[evB,xtr,Nat.reduceAdd,Nat.reduceBEq,Int.reduceToNat, *];rfl) ?_;refine⟨⟨by rw[aG hplen];rfl,by rw[aI hf1.ne];exact hf1.fq,hf1.ne⟩,hch.trans (Ch.setp _ _)⟩
 ·simp at h
theorem jq{p q:Nat}{R C:Int}{g g':G}{arr:Array Value}(l:List (Int×Int))(ha:arr=(dH l).toArray)(hl8:l.length=8)(hd:Dim R C)(hf:Grd H p q R C g)(hlp:lo<=p)(hlo:lo<=q)(h:jU (a0 R C) g l=some g') :
  Ev cp lo 181 [.pointer (some ⟨p,0,none⟩),.agg arr] H (fun _ H'=>Grd H' p q R C g'/\Ch p q H H'):=by
 subst ha;exact Ed hl8 hd hf hlp hlo h
theorem qq{p q:Nat}{R C:Int}{g g':G}{r c:Int}(hb:inB r c=true)(hd:Dim R C)(hf:Grd H p q R C g)(hn:(g.cells.length:Int)=R*C)(hlp:lo<=p)(hlo:lo<=q)(h:kF (a0 R C) g r c=some g') :
  Ev cp lo 137 [.pointer (some ⟨p,0,none⟩),.int .i64 r,.int .i64 c] H (fun _ H'=>Grd H' p q R C g'/\Ch p q H H'):=by
 have hd':=hd;obtain⟨r0,r1,c0,c1⟩:=hd';obtain⟨b1,b2,b3,b4⟩:=eT hb;have fp:=hf.fp;have fq:=hf.fq;refine stG rfl rfl ?_;unfold LA;simp only[kB,aD];by_cases h1:0<=r
 ·by_cases h2:r<R
  ·by_cases h3:0<=c
   ·by_cases h4:c<C
    ·have hi:=vZ h1 h2 h3 h4
     have hm:=dV (a:=r) (b:=C) (A:=200) (B:=200) byO byO byO c1 byO;have hx:(r*C+c).toNat<g.cells.length:=byO;have n1:¬ r<0:=byO;have n2:¬ R<=r:=byO;have n3:¬ c<0:=byO;have n4:¬ C<=c:=byO;by_cases h5:g.cells.getD (r*C+c).toNat 0<0
     ·have hfr:(a0 R C).free g r c=true:=by simp only[a0,h1,h2,h3,h4,h5,decide_true,Bool.and_self]
      simp only[kF,hfr,if_true]at h;have n5:¬ 0<=g.cells.getD (r*C+c).toNat 0:=byO;have hh:=h;clear h;refine an ?_;refine bF ?_;refine aC (jq (pl r c) (by simp only[dH,pl,List.flatMap_cons,List.flatMap_nil,am₀,List.nil_append]) rfl hd hf hlp hlo hh) ?_;rintro v H2 hh;(try simp only[aD]);refine dR (by simp(disch:=try exact dO)only[evB,xtr,Nat.reduceAdd,Nat.reduceBEq,Int.reduceToNat, *];rfl) ?_;exact hh
     ·have hfr:(a0 R C).free g r c=false:=by simp only[a0,h1,h2,h3,h4,h5,decide_true,decide_false,Bool.and_self,Bool.and_false]
      have n5:0<=g.cells.getD (r*C+c).toNat 0:=byO;simp only[kF,hfr,ah₀,if_false]at h;cases h;refine bL ?_;(try simp only[aD]);refine aK ?_;exact⟨hf,Ch.refl _⟩
    ·have hfr:(a0 R C).free g r c=false:=by simp only[a0,h4,decide_false,Bool.and_false,Bool.false_and]
     have n1:¬ r<0:=byO;have n2:¬ R<=r:=byO;have n3:¬ c<0:=byO;have n4:C<=c:=byO;simp only[kF,hfr,ah₀,if_false]at h;cases h;refine bL ?_;(try simp only[aD]);refine aK ?_;exact⟨hf,Ch.refl _⟩
   ·have hfr:(a0 R C).free g r c=false:=by simp only[a0,h3,decide_false,Bool.and_false,Bool.false_and]
    have n1:¬ r<0:=byO;have n2:¬ R<=r:=byO;have n3:c<0:=byO;simp only[kF,hfr,ah₀,if_false]at h;cases h;refine bL ?_;(try simp only[aD]);refine aK ?_;exact⟨hf,Ch.refl _⟩
  ·have hfr:(a0 R C).free g r c=false:=by simp only[a0,h2,decide_false,Bool.and_false,Bool.false_and]
   have n1:¬ r<0:=byO;have n2:R<=r:=byO;simp only[kF,hfr,ah₀,if_false]at h;cases h;refine bL ?_;(try simp only[aD]);refine aK ?_;exact⟨hf,Ch.refl _⟩
 ·have hfr:(a0 R C).free g r c=false:=by simp only[a0,h1,decide_false,Bool.and_false,Bool.false_and]
  have n1:r<0:=byO;simp only[kF,hfr,ah₀,if_false]at h;cases h;refine bL ?_;(try simp only[aD]);refine aK ?_;exact⟨hf,Ch.refl _⟩
set_option maxHeartbeats 4000000 in
theorem Cj{p q:Nat}{R C:Int}{g g':G}{r c:Int}(hd:Dim R C)(hf:Grd H p q R C g)(hlp:lo<=p)(hlo:lo<=q)(h:fF (a0 R C) R C g r c=some g') :
  Ev cp lo 136 [.pointer (some ⟨p,0,none⟩),.int .i64 r,.int .i64 c] H (fun _ H'=>Grd H' p q R C g'/\Ch p q H H'):=by
 have hd':=hd;obtain⟨r0,r1,c0,c1⟩:=hd';have fp:=hf.fp;unfold fF at h;split at h
 ·simp at h
 rename_i ga ha;split at h
 ·simp at h
 rename_i gb hb;split at h
 ·simp at h
 rename_i gc hc;have hlast:=h;clear h;refine stG rfl rfl ?_;unfold Kz;simp only[kB,aD];refine aA ?_;clear fp;refine eG (fun S' H'=>S'=[.pointer (some ⟨p,0,none⟩),.int .i64 r,.int .i64 c,.int .i64 R,.int .i64 C]/\Grd H' p q R C ga/\Ch p q H H') ?_ ?_
 ·refine aP ?_ ?_<;>intro h
  ·have e:k1 R r c=true:=h
   rw[e]at ha;refine bF ?_;refine aC (jq (YtmnlgdpdgjbfgaaGreat.c1 R C) (by simp only[dH,YtmnlgdpdgjbfgaaGreat.c1,List.flatMap_cons,List.flatMap_nil,am₀,List.nil_append]) rfl hd hf hlp hlo ha) ?_;rintro v H2 hh;(try simp only[aD]);exact⟨by trivial,hh⟩
  ·have e:k1 R r c=false:=h
   rw[e]at ha;cases ha;(try simp only[aD]);exact⟨by trivial,hf,Ch.refl _⟩
 rintro S' H1 ⟨rfl,hf1,hc1⟩;(try simp only[aD]);refine eG (fun S' H'=>S'=[.pointer (some ⟨p,0,none⟩),.int .i64 r,.int .i64 c,.int .i64 R,.int .i64 C]/\Grd H' p q R C gb/\Ch p q H H') ?_ ?_
 ·refine aP ?_ ?_<;>intro h
  ·have e:k2 R C r c=true:=h
   rw[e]at hb;refine bF ?_;refine aC (jq (YtmnlgdpdgjbfgaaGreat.c2 R C) (by simp only[dH,YtmnlgdpdgjbfgaaGreat.c2,List.flatMap_cons,List.flatMap_nil,am₀,List.nil_append]) rfl hd hf1 hlp hlo hb) ?_;rintro v H2 hh;(try simp only[aD]);exact⟨by trivial,hh.1,hc1.trans hh.2⟩
  ·have e:k2 R C r c=false:=h
   rw[e]at hb;cases hb;(try simp only[aD]);exact⟨by trivial,hf1,hc1⟩
 rintro S' H2 ⟨rfl,hf2,hc2⟩;(try simp only[aD]);refine eG (fun S' H'=>S'=[.pointer (some ⟨p,0,none⟩),.int .i64 r,.int .i64 c,.int .i64 R,.int .i64 C]/\Grd H' p q R C gc/\Ch p q H H') ?_ ?_
 ·refine aP ?_ ?_<;>intro h
  ·have e:k3 R C r c=true:=h
   rw[e]at hc;refine bF ?_;refine aC (jq (YtmnlgdpdgjbfgaaGreat.c3 R C) (by simp only[dH,YtmnlgdpdgjbfgaaGreat.c3,List.flatMap_cons,List.flatMap_nil,am₀,List.nil_append]) rfl hd hf2 hlp hlo hc) ?_;rintro v H2 hh;(try simp only[aD]);exact⟨by trivial,hh.1,hc2.trans hh.2⟩
  ·have e:k3 R C r c=false:=h
   rw[e]at hc;cases hc;(try simp only[aD]);exact⟨by trivial,hf2,hc2⟩
 rintro S' H3 ⟨rfl,hf3,hc3⟩;(try simp only[aD]);refine aP ?_ ?_<;>intro h
 ·have e:k4 R C r c=true:=h
  rw[e]at hlast;refine bF ?_;refine aC (jq (YtmnlgdpdgjbfgaaGreat.c4 R C) (by simp only[dH,YtmnlgdpdgjbfgaaGreat.c4,List.flatMap_cons,List.flatMap_nil,am₀,List.nil_append]) rfl hd hf3 hlp hlo hlast) ?_;rintro v H2 hh;(try simp only[aD]);refine dR (by simp(disch:=try exact dO)only[evB,xtr,Nat.reduceAdd,Nat.reduceBEq,Int.reduceToNat, *];rfl) ?_;exact⟨hh.1,hc3.trans hh.2⟩
 ·have e:k4 R C r c=false:=h
  rw[e]at hlast;cases hlast;(try simp only[aD]);refine dR (by simp(disch:=try exact dO)only[evB,xtr,Nat.reduceAdd,Nat.reduceBEq,Int.reduceToNat, *];rfl) ?_;exact⟨hf3,hc3⟩
def xx(q:Nat)(i:Nat):Value:=if i=0 then .slice none 0 0 else .slice (some ⟨q,0,some 1⟩) i i
theorem CV{σ:Type}(O:Ops σ)(C:Int)(k:Nat)(s:σ)(r c:Int):upG O C (k+1) s r c=(if inB r c=true then match kF O s r c with
  | none=>none
  | some s=>if 0<=r-2/\c+2<C then upG O C k s (r-2) (c+2) else some (s,r-2,c+2)
  else none):=by simp only[upG,lB];rfl
theorem tz{σ:Type}(O:Ops σ)(R:Int)(k:Nat)(s:σ)(r c:Int):gd O R (k+1) s r c=(if inB r c=true then match kF O s r c with
  | none=>none
  | some s=>if r+2<R/\0<=c-2 then gd O R k s (r+2) (c-2) else some (s,r+2,c-2)
  else none):=by simp only[gd,lB];rfl
set_option maxHeartbeats 4000000 in
theorem Jd{R C:Int}{gf:G}(hd:Dim R C)(hlo:lo<=H.length)(h:AT R C=some gf) :
  Ev cp lo 83 [.int .i64 R,.int .i64 C] H (fun v H'=>Ext H H'/\∃q,H.length<=q/\v=.slice (some ⟨q,0,some 1⟩) gf.cells.length gf.cells.length/\H'.get q=some (aW gf.cells)):=by
 have hd':=hd;obtain⟨r0,r1,c0,c1⟩:=hd';have hm:=dV (a:=R) (b:=C) (A:=200) (B:=200) byO byO byO c1 byO;have hm1:6*C<=R*C:=Int.mul_le_mul_of_nonneg_right r0 byO;refine stG rfl rfl ?_;unfold Qj;simp only[kB,aD];refine aA ?_;refine c8 (fun S H'=>∃(q:Nat) (x4 x8 x9 x10 x11:Value),S=[.int .i64 R,.int .i64 C,.slice none 0 0,.pointer (some ⟨H.length,0,none⟩),x4,undef,undef,.pointer (some ⟨H.length,0,none⟩),x8,x9,x10,x11]/\Ext H H'/\H.length<q/\H'.get H.length=some [.int .i64 R,.int .i64 C,.int .i64 0,.slice (some ⟨q,0,some 1⟩) (R*C).toNat (R*C).toNat]/\H'.get q=some (aW (List.replicate (R*C).toNat (-1)))) ?_ ?_
 ·refine aY (fun m S H'=>∃(i q:Nat) (x8 x9 x10 x11:Value),(i:Int)<=R*C/\m=(R*C).toNat-i/\S=[.int .i64 R,.int .i64 C,.slice none 0 0,.pointer (some ⟨H.length,0,none⟩),.int .i64 i,undef,undef,.pointer (some ⟨H.length,0,none⟩),x8,x9,x10,x11]/\Ext H H'/\H.length<H'.length/\H'.get H.length=some [.int .i64 R,.int .i64 C,.int .i64 0,xx q i]/\(i≠0->H.length<q/\H'.get q=some (aW (List.replicate i (-1))))) (R*C).toNat ?_ ?_
  ·exact⟨0,0,_,_,_,_,byO,byO,rfl,Ext.app _ _,by simp,by rw[aF];rfl,fun h=>absurd rfl h⟩
  rintro m S H' ⟨i,q,x8,x9,x10,x11,hi,rfl,rfl,hx,hl,g0,gq⟩;(try simp only[aD]);refine aP ?_ ?_<;>intro h
  ·have hi2:(i:Int)<R*C:=by simpa using h
   clear h;by_cases hi0:i=0
   ·subst hi0
    simp only[xx,if_true]at g0;clear gq;refine aA ?_;simp only[ak];refine⟨(R*C).toNat-1,byO,1,H'.length+1,_,_,_,_,byO,rfl,rfl,(hx.set (Nat.le_refl _)).trans (Ext.app _ _),by simp;omega,?_,fun _=>⟨byO,?_⟩⟩
    ·rw[aV (by simp;omega),aG hl];rfl
    ·have e:∀X:Heap,X.length=H'.length->∀a b:List Value,Heap.get (X++[some a,some b]) (H'.length+1)=some b:=fun X hX a b=>by rw[<-hX,bC];rfl
     rw[e _ (by simp)];rfl
   ·obtain⟨hq,gq⟩:=gq hi0
    simp only[xx,if_neg hi0]at g0;have hql:=Heap.get_lt gq;refine aA ?_;simp only[ak];refine⟨(R*C).toNat-(i+1),byO,i+1,H'.length+1,_,_,_,_,byO,rfl,by simp only[ap₀,Int.natCast_one];rfl,?_,by simp;omega,?_,fun _=>⟨byO,?_⟩⟩
    ·exact((hx.set byO).set byO).trans (Ext.app _ _)
    ·rw[aV (by simp;omega),aG (by simp;omega)];simp[xx]
    ·have e:∀X:Heap,X.length=H'.length->∀a b:List Value,Heap.get (X++[some a,some b]) (H'.length+1)=some b:=fun X hX a b=>by rw[<-hX,bC];rfl
     rw[e _ (by simp),List.take_of_length_le (by simp),List.replicate_succ',jE];rfl
  ·have hi2:(i:Int)=R*C:=by simp at h;omega
   clear h;have hi3:i=(R*C).toNat:=byO;obtain⟨hq,gq⟩:=gq byO;simp only[xx,if_neg (show ¬ i=0 by omega)]at g0;rw[hi3]at g0 gq;(try simp only[aD]);exact⟨q,_,_,_,_,_,rfl,hx,hq,g0,gq⟩
 rintro S H1 ⟨q,x4,x8,x9,x10,x11,rfl,hx1,hq,g0,gq⟩;have hf:Grd H1 H.length q R C ⟨0,List.replicate (R*C).toNat (-1)⟩:=⟨by rw[g0];simp,gq,byO⟩;clear g0 gq;unfold AT at h;generalize hg0:(⟨0,List.replicate (R*C).toNat (-1)⟩:G)=gi at *;have hlen0:(gi.cells.length:Int)=R*C:=by rw[<-hg0];simp;omega
 clear hg0;have hHp:H.length<=H.length:=Nat.le_refl _;generalize hx7:Value.pointer (some ⟨H.length,0,none⟩)=x7';generalize hp:H.length=p at hf hlo hq hx7 hHp ⊢;subst hx7;have hlp:lo<=p:=hlo;have hlq:lo<=q:=byO;have hch1:∀i,i<p->H1.get i=H.get i:=fun i hi=>hx1.2 i byO;have hl1:p<=H1.length:=by have:=hx1.1;omega
 refine aA ?_;refine aY (fun m S H'=>∃(r c:Int) (g:G) (x4 x7 x8 x9 x10 x11:Value),S=[.int .i64 R,.int .i64 C,.slice none 0 0,.pointer (some ⟨p,0,none⟩),x4,.int .i64 r,.int .i64 c,x7,x8,x9,x10,x11]/\Grd H' p q R C g/\(g.cells.length:Int)=R*C/\(∀i,i<p->H'.get i=H.get i)/\p<=H'.length /\
  (((r<R\/c<C)/\∃k,m=k+1/\pW (a0 R C) R C k g r c=some gf)\/(¬ (r<R\/c<C)/\m=0/\g=gf))) 201 ?_ ?_
 ·exact⟨4,0,gi,_,_,_,_,_,_,rfl,hf,hlen0,hch1,hl1,.inl ⟨.inl byO,200,rfl,h⟩⟩
 rintro m S H3 ⟨r,c,g,x4,x7,x8,x9,x10,x11,rfl,hf3,hlen3,hch3,hl3,hcase⟩;(try simp only[aD]);refine aP ?_ ?_<;>intro h
 ·have hcond:r<R\/c<C:=by simpa using h
  clear h;rcases hcase with ⟨_,k,rfl,hout⟩|⟨e,_⟩;rotate_left
  ·exact absurd hcond e
  cases k with
  | zero=>simp[pW]at hout
  | succ k=>
  simp only[pW,lB]at hout;split at hout;rotate_left
  ·simp at hout
  rename_i hinB;have hb:=eT hinB;split at hout
  ·simp at hout
  rename_i g4 hg4;split at hout
  ·simp at hout
  rename_i g5 ra ca hg5;split at hout
  ·simp at hout
  rename_i g6 rb cb hg6;have bl5:=Am hg5;have bl6:=rR hg6;have bl4:=qE hg4;refine bF ?_;refine aC (Cj hd hf3 hlp hlq hg4) ?_;rintro v H4 ⟨hf4,hc4⟩;have hlen4:(g4.cells.length:Int)=R*C:=by rw[bl4];exact hlen3
  have hch4:∀i,i<p->H4.get i=H.get i:=fun i hi=>by rw[hc4.get i byO byO byO];exact hch3 i hi
  have hl4:p<=H4.length:=Nat.le_trans hl3 hc4.len;rw[CV _ _ 199,if_pos hinB]at hg5;split at hg5
  ·simp at hg5
  rename_i g7 hg7;have bl7:=gZ hg7;refine bF ?_;refine aC (qq hinB hd hf4 hlen4 hlp hlq hg7) ?_;rintro v H5 ⟨hf5,hc5⟩;have hlen5:(g7.cells.length:Int)=R*C:=by rw[bl7];exact hlen4
  have hch5:∀i,i<p->H5.get i=H.get i:=fun i hi=>by rw[hc5.get i byO byO byO];exact hch4 i hi
  have hl5:p<=H5.length:=Nat.le_trans hl4 hc5.len;refine aA ?_;refine c8 (fun S H'=>∃x4 x7 x8 x9 x10 x11:Value,S=[.int .i64 R,.int .i64 C,.slice none 0 0,.pointer (some ⟨p,0,none⟩),x4,.int .i64 ra,.int .i64 ca,x7,x8,x9,x10,x11]/\Grd H' p q R C g5/\(∀i,i<p->H'.get i=H.get i)/\p<=H'.length) ?_ ?_
  ·refine aY (fun m S H'=>∃(r c:Int) (g:G) (x4 x7 x8 x9 x10 x11:Value),S=[.int .i64 R,.int .i64 C,.slice none 0 0,.pointer (some ⟨p,0,none⟩),x4,.int .i64 r,.int .i64 c,x7,x8,x9,x10,x11]/\-4002<=r/\r<=4002/\-4002<=c/\c<=4002/\Grd H' p q R C g/\(g.cells.length:Int)=R*C/\(∀i,i<p->H'.get i=H.get i)/\p<=H'.length /\
    (((0<=r/\c<C)/\∃k,k<m/\upG (a0 R C) C k g r c=some (g5,ra,ca))\/(¬ (0<=r/\c<C)/\g=g5/\r=ra/\c=ca))) 201 ?_ ?_
   ·refine⟨r-2,c+2,g7,_,_,_,_,_,_,rfl,byO,byO,byO,byO,hf5,hlen5,hch5,hl5,?_⟩
    split at hg5
    ·rename_i hc2;exact .inl ⟨hc2,199,byO,hg5⟩
    ·rename_i hc2
     simp only[ab₀,ad₀]at hg5;exact .inr ⟨hc2,hg5.1,hg5.2.1,hg5.2.2⟩
   rintro m S H6 ⟨r,c,g,x4,x7,x8,x9,x10,x11,rfl,br1,br2,bc1,bc2,hf6,hlen6,hch6,hl6,hcase⟩;(try simp only[aD]);refine aP ?_ ?_<;>intro h
   ·have hcond:0<=r/\c<C:=by simpa using h
    clear h;rcases hcase with ⟨_,k,hkm,hup⟩|⟨e,_⟩;rotate_left
    ·exact absurd hcond e
    cases k with
    | zero=>simp[upG]at hup
    | succ k=>
    rw[CV]at hup;split at hup;rotate_left
    ·simp at hup
    rename_i hinB;have hb:=eT hinB;split at hup
    ·simp at hup
    rename_i g7 hg7;have hlen7:(g7.cells.length:Int)=R*C:=by rw[gZ hg7];exact hlen6
    refine bF ?_;refine aC (qq hinB hd hf6 hlen6 hlp hlq hg7) ?_;rintro v H7 ⟨hf7,hc7⟩;have hch7:∀i,i<p->H7.get i=H.get i:=fun i hi=>by rw[hc7.get i byO byO byO];exact hch6 i hi
    have hl7:p<=H7.length:=Nat.le_trans hl6 hc7.len;refine aA ?_;simp only[ak];split at hup
    ·rename_i hc2
     exact⟨m-1,byO,r-2,c+2,g7,_,_,_,_,_,_,rfl,byO,byO,byO,byO,hf7,hlen7,hch7,hl7,.inl ⟨hc2,k,byO,hup⟩⟩
    ·rename_i hc2
     simp only[ab₀,ad₀]at hup;exact⟨m-1,byO,r-2,c+2,g7,_,_,_,_,_,_,rfl,byO,byO,byO,byO,hf7,hlen7,hch7,hl7,.inr ⟨hc2,hup.1,hup.2.1,hup.2.2⟩⟩
   ·have hcond:¬ (0<=r/\c<C):=by simpa using h
    clear h;rcases hcase with ⟨e,_⟩|⟨_,rfl,rfl,rfl⟩
    ·exact absurd e hcond
    (try simp only[aD]);exact⟨_,_,_,_,_,_,rfl,hf6,hch6,hl6⟩
  rintro S H6 ⟨y4,y7,y8,y9,y10,y11,rfl,hf6,hch6,hl6⟩;have hlen6:(g5.cells.length:Int)=R*C:=by rw[bl5.1];exact hlen4
  rw[tz _ _ 199]at hg6;split at hg6;rotate_left
  ·simp at hg6
  rename_i hinB2;have hb2:=eT hinB2;split at hg6
  ·simp at hg6
  rename_i g8 hg8;have bl8:=gZ hg8;refine aA ?_;refine aT ?_;refine aC (qq hinB2 hd hf6 hlen6 hlp hlq hg8) ?_;rintro v H8 ⟨hf8,hc8⟩;have hlen8:(g8.cells.length:Int)=R*C:=by rw[bl8];exact hlen6
  have hch8:∀i,i<p->H8.get i=H.get i:=fun i hi=>by rw[hc8.get i byO byO byO];exact hch6 i hi
  have hl8:p<=H8.length:=Nat.le_trans hl6 hc8.len;refine aA ?_;refine c8 (fun S H'=>∃x4 x7 x8 x9 x10 x11:Value,S=[.int .i64 R,.int .i64 C,.slice none 0 0,.pointer (some ⟨p,0,none⟩),x4,.int .i64 rb,.int .i64 cb,x7,x8,x9,x10,x11]/\Grd H' p q R C g6/\(∀i,i<p->H'.get i=H.get i)/\p<=H'.length) ?_ ?_
  ·refine aY (fun m S H'=>∃(r c:Int) (g:G) (x4 x7 x8 x9 x10 x11:Value),S=[.int .i64 R,.int .i64 C,.slice none 0 0,.pointer (some ⟨p,0,none⟩),x4,.int .i64 r,.int .i64 c,x7,x8,x9,x10,x11]/\-4002<=r/\r<=4002/\-4002<=c/\c<=4002/\Grd H' p q R C g/\(g.cells.length:Int)=R*C/\(∀i,i<p->H'.get i=H.get i)/\p<=H'.length /\
    (((r<R/\0<=c)/\∃k,k<m/\gd (a0 R C) R k g r c=some (g6,rb,cb))\/(¬ (r<R/\0<=c)/\g=g6/\r=rb/\c=cb))) 201 ?_ ?_
   ·refine⟨ra+1+2,ca+3-2,g8,_,_,_,_,_,_,rfl,byO,byO,byO,byO,hf8,hlen8,hch8,hl8,?_⟩
    split at hg6
    ·rename_i hc2;exact .inl ⟨hc2,199,byO,hg6⟩
    ·rename_i hc2
     simp only[ab₀,ad₀]at hg6;exact .inr ⟨hc2,hg6.1,hg6.2.1,hg6.2.2⟩
   rintro m S H6 ⟨r,c,g,x4,x7,x8,x9,x10,x11,rfl,br1,br2,bc1,bc2,hf6,hlen6,hch6,hl6,hcase⟩;(try simp only[aD]);refine aP ?_ ?_<;>intro h
   ·have hcond:r<R/\0<=c:=by simpa using h
    clear h;rcases hcase with ⟨_,k,hkm,hup⟩|⟨e,_⟩;rotate_left
    ·exact absurd hcond e
    cases k with
    | zero=>simp[gd]at hup
    | succ k=>
    rw[tz]at hup;split at hup;rotate_left
    ·simp at hup
    rename_i hinB;have hb:=eT hinB;split at hup
    ·simp at hup
    rename_i g7 hg7;have hlen7:(g7.cells.length:Int)=R*C:=by rw[gZ hg7];exact hlen6
    refine bF ?_;refine aC (qq hinB hd hf6 hlen6 hlp hlq hg7) ?_;rintro v H7 ⟨hf7,hc7⟩;have hch7:∀i,i<p->H7.get i=H.get i:=fun i hi=>by rw[hc7.get i byO byO byO];exact hch6 i hi
    have hl7:p<=H7.length:=Nat.le_trans hl6 hc7.len;refine aA ?_;simp only[ak];split at hup
    ·rename_i hc2
     exact⟨m-1,byO,r+2,c-2,g7,_,_,_,_,_,_,rfl,byO,byO,byO,byO,hf7,hlen7,hch7,hl7,.inl ⟨hc2,k,byO,hup⟩⟩
    ·rename_i hc2
     simp only[ab₀,ad₀]at hup;exact⟨m-1,byO,r+2,c-2,g7,_,_,_,_,_,_,rfl,byO,byO,byO,byO,hf7,hlen7,hch7,hl7,.inr ⟨hc2,hup.1,hup.2.1,hup.2.2⟩⟩
   ·have hcond:¬ (r<R/\0<=c):=by simpa using h
    clear h;rcases hcase with ⟨e,_⟩|⟨_,rfl,rfl,rfl⟩
    ·exact absurd e hcond
    (try simp only[aD]);exact⟨_,_,_,_,_,_,rfl,hf6,hch6,hl6⟩
  rintro S H9 ⟨z4,z7,z8,z9,z10,z11,rfl,hf9,hch9,hl9⟩;have hlen9:(g6.cells.length:Int)=R*C:=by rw[bl6.1];exact hlen6
  refine aA ?_;simp only[ak];split at hout
  ·rename_i hc2
   exact⟨k+1,byO,rb+3,cb+1,g6,_,_,_,_,_,_,rfl,hf9,hlen9,hch9,hl9,.inl ⟨hc2,k,rfl,hout⟩⟩
  ·rename_i hc2
   cases hout;exact⟨0,byO,rb+3,cb+1,gf,_,_,_,_,_,_,rfl,hf9,hlen9,hch9,hl9,.inr ⟨hc2,rfl,rfl⟩⟩
 ·have hcond:¬ (r<R\/c<C):=by simpa using h
  clear h;rcases hcase with ⟨e,_⟩|⟨_,_,rfl⟩
  ·exact absurd e hcond
  have fp:=hf3.fp;refine aA ?_;refine aK ?_;exact⟨⟨byO,fun i hi=>hch3 i byO⟩,q,byO,rfl,hf3.fq⟩
theorem VH:∃gf,SizeOrd (bO 0) gf:=aX (ah byO) (R:=8) (C:=8) (w:=8) rfl rfl rfl byO Uk
theorem VI:∃gf,SizeOrd (bO 1) gf:=aX (ah byO) (R:=10) (C:=10) (w:=12) rfl rfl rfl byO O5
theorem VJ:∃gf,SizeOrd (bO 2) gf:=aX (ah byO) (R:=12) (C:=12) (w:=18) rfl rfl rfl byO O8
theorem VK:∃gf,SizeOrd (bO 3) gf:=aX (ah byO) (R:=14) (C:=14) (w:=24) rfl rfl rfl byO O9
theorem VM:∃gf,SizeOrd (bO 4) gf:=aX (ah byO) (R:=16) (C:=16) (w:=32) rfl rfl rfl byO Oc
theorem VN:∃gf,SizeOrd (bO 5) gf:=aX (ah byO) (R:=18) (C:=18) (w:=40) rfl rfl rfl byO Od
theorem VO:∃gf,SizeOrd (bO 6) gf:=aX (ah byO) (R:=20) (C:=20) (w:=50) rfl rfl rfl byO Oe
theorem VP:∃gf,SizeOrd (bO 7) gf:=aX (ah byO) (R:=22) (C:=22) (w:=60) rfl rfl rfl byO Of
theorem VQ:∃gf,SizeOrd (bO 8) gf:=aX (ah byO) (R:=24) (C:=24) (w:=72) rfl rfl rfl byO Og
theorem VR:∃gf,SizeOrd (bO 9) gf:=aX (ah byO) (R:=28) (C:=28) (w:=98) rfl rfl rfl byO Oh
theorem Sj:∃gf,SizeOrd (bO 10) gf:=aX (ah byO) (R:=32) (C:=32) (w:=128) rfl rfl rfl byO Oi
theorem Sk:∃gf,SizeOrd (bO 11) gf:=aX (ah byO) (R:=36) (C:=36) (w:=162) rfl rfl rfl byO Oj
theorem Sm:∃gf,SizeOrd (bO 12) gf:=aX (ah byO) (R:=40) (C:=40) (w:=200) rfl rfl rfl byO Ol
theorem Sn:∃gf,SizeOrd (bO 13) gf:=aX (ah byO) (R:=44) (C:=44) (w:=242) rfl rfl rfl byO Om
theorem So:∃gf,SizeOrd (bO 14) gf:=aX (ah byO) (R:=48) (C:=48) (w:=288) rfl rfl rfl byO On
theorem Sp:∃gf,SizeOrd (bO 15) gf:=aX (ah byO) (R:=56) (C:=56) (w:=392) rfl rfl rfl byO Oo
theorem Sq:∃gf,SizeOrd (bO 16) gf:=aX (ah byO) (R:=64) (C:=64) (w:=512) rfl rfl rfl byO Oq
theorem Sr:∃gf,SizeOrd (bO 17) gf:=aX (ah byO) (R:=72) (C:=72) (w:=648) rfl rfl rfl byO Ot
theorem Ss:∃gf,SizeOrd (bO 18) gf:=aX (ah byO) (R:=80) (C:=80) (w:=800) rfl rfl rfl byO Ou
theorem St:∃gf,SizeOrd (bO 19) gf:=aX (ah byO) (R:=88) (C:=88) (w:=968) rfl rfl rfl byO Ov
theorem Su:∃gf,SizeOrd (bO 20) gf:=aX (ah byO) (R:=96) (C:=96) (w:=1152) rfl rfl rfl byO Ow
theorem Sv:∃gf,SizeOrd (bO 21) gf:=aX (ah byO) (R:=108) (C:=108) (w:=1458) rfl rfl rfl byO GU
theorem Sw:∃gf,SizeOrd (bO 22) gf:=aX (ah byO) (R:=120) (C:=120) (w:=1800) rfl rfl rfl byO GV
theorem Sx:∃gf,SizeOrd (bO 23) gf:=aX (ah byO) (R:=132) (C:=132) (w:=2178) rfl rfl rfl byO GW
theorem Sy:∃gf,SizeOrd (bO 24) gf:=aX (ah byO) (R:=6) (C:=16) (w:=12) rfl rfl rfl byO Ri
theorem TA:∃gf,SizeOrd (bO 25) gf:=aX (ah byO) (R:=6) (C:=28) (w:=21) rfl rfl rfl byO Rj
theorem TB:∃gf,SizeOrd (bO 26) gf:=aX (ah byO) (R:=10) (C:=24) (w:=30) rfl rfl rfl byO O6
theorem TC:∃gf,SizeOrd (bO 27) gf:=aX (ah byO) (R:=10) (C:=32) (w:=40) rfl rfl rfl byO O7
theorem TD:∃gf,SizeOrd (bO 28) gf:=aX (ah byO) (R:=14) (C:=32) (w:=56) rfl rfl rfl byO Oa
theorem TE:∃gf,SizeOrd (bO 29) gf:=aX (ah byO) (R:=14) (C:=44) (w:=77) rfl rfl rfl byO Ob
theorem Af:∀s ∈ szs,∃gf,SizeOrd s gf:=by
 intro s hs;have key:∀i,i<30->∃gf,SizeOrd (bO i) gf:=by
  intro i hi
  match i,hi with
  | 0,_=>exact VH
  | 1,_=>exact VI
  | 2,_=>exact VJ
  | 3,_=>exact VK
  | 4,_=>exact VM
  | 5,_=>exact VN
  | 6,_=>exact VO
  | 7,_=>exact VP
  | 8,_=>exact VQ
  | 9,_=>exact VR
  | 10,_=>exact Sj
  | 11,_=>exact Sk
  | 12,_=>exact Sm
  | 13,_=>exact Sn
  | 14,_=>exact So
  | 15,_=>exact Sp
  | 16,_=>exact Sq
  | 17,_=>exact Sr
  | 18,_=>exact Ss
  | 19,_=>exact St
  | 20,_=>exact Su
  | 21,_=>exact Sv
  | 22,_=>exact Sw
  | 23,_=>exact Sx
  | 24,_=>exact Sy
  | 25,_=>exact TA
  | 26,_=>exact TB
  | 27,_=>exact TC
  | 28,_=>exact TD
  | 29,_=>exact TE
  | n+30,h=>omega
 obtain⟨i,hi,rfl⟩:=List.getElem_of_mem hs;have e:szs[i]=bO i:=by
  unfold bO;rw[au₀,bc₀ hi];rfl
 rw[e];exact key i (by rw[gI]at hi;exact hi)
theorem map_some{R C:Int}(h:R5 R C):Dim R C/\∃gf,AT R C=some gf:=by
 obtain⟨s,hs,rfl,rfl⟩:=h;obtain⟨gf,h⟩:=Af s hs;exact⟨h.dim,gf,h.ord⟩
theorem uX{s:Sz}(hs:SzOK s):Ev cp lo 82 [s.val] H (fun v H'=>Ext H H'/\v=.tuple #[.int .i64 (fU s),.int .i64 (eO s)]):=by
 have hb:=nQ hs;obtain⟨r0,r1,c0,c1,rr0,rr1,rc0,rc1,_⟩:=hs;unfold fU eO at hb;refine stG rfl rfl ?_;unfold Qi;simp only[kB,aD];refine aA ?_;refine aK ?_;exact⟨Ext.app _ _,rfl⟩
def ti(s:Sz)(row col:Int):Bool:=if (decide (lc s col=0) || decide (lr s row=s.rr+1))=true then true else if lr s row=0 then decide ((lc s col).tmod 2=0) else decide ((lr s row).tmod 2=1)
theorem ES{s:Sz}{row col:Int}(h:jz s row col=true):ti s row col=vf s row col:=by
 unfold ti vf;split
 ·rfl
 ·rename_i h1
  split
  ·rfl
  ·rename_i h2
   have h3:lc s col=s.rc+1:=by
    simp only[jz,ar₀,af₀]at h h1;omega
   rw[if_pos h3]
theorem ET{s:Sz}{row col:Int}(hs:SzOK s)(h0:0<=row)(h1:row<=200)(h2:0<=col)(h3:col<=200) :
  Ev cp lo 84 [s.val,.int .i64 col,.int .i64 row] H (fun v H'=>Ext H H'/\v=.tuple #[.bool (jz s row col),.bool (ti s row col)]):=by
 obtain⟨r0,r1,c0,c1,rr0,rr1,rc0,rc1,_⟩:=hs;have m1:=eM (a:=row) (m:=s.rr+2) byO byO;have m2:=eM (a:=col) (m:=s.rc+2) byO byO;have er:row.tmod (s.rr+2)=lr s row:=rfl;have ec:col.tmod (s.rc+2)=lc s col:=rfl;rw[er]at m1;rw[ec]at m2;refine stG rfl rfl ?_;unfold Qk;simp only[kB,aD];refine aA ?_;refine aP ?_ ?_<;>intro h
 ·have k1:=h
  clear h;refine aA ?_;refine aK ?_;refine⟨Ext.app _ _,?_⟩;simp[aM,jz,ti,k1]
 have k1:=h;clear h;(try simp only[aD]);refine aP ?_ ?_<;>intro h
 ·have k2:lr s row=0:=by simpa using h
  clear h;refine aA ?_;refine aK ?_;refine⟨Ext.app _ _,?_⟩;simp only[k2]at k1;simp[aM,jz,ti,k1,k2]
 have k2:¬ lr s row=0:=by simpa using h
 clear h;refine aA ?_;refine aK ?_;refine⟨Ext.app _ _,?_⟩;simp[aM,jz,ti,k1,k2]
theorem NO{s:Sz}{row col:Int}(hs:SzOK s)(hlo:lo<=H.length)(h0:0<=row)(h1:row<=200)(h2:0<=col)(h3:col<=200)(hB:jz s row col=false) :
  Ev cp lo 85 [s.val,.int .i64 col,.int .i64 row] H (fun v H'=>Ext H H'/\v=.int .i64 (eh s row col)):=by
 have hb:=nQ hs;have hs':=hs;obtain⟨r0,r1,c0,c1,rr0,rr1,rc0,rc1,_⟩:=hs';have m1:=eM (a:=row) (m:=s.rr+2) byO byO;have m2:=eM (a:=col) (m:=s.rc+2) byO byO;have er:row.tmod (s.rr+2)=lr s row:=rfl;have ec:col.tmod (s.rc+2)=lc s col:=rfl;have hI:eh s row col=(row.tdiv (s.rr+2)*s.rr+lr s row-1)*eO s+(col.tdiv (s.rc+2)*s.rc+lc s col-1):=by
  unfold eh;rw[hB];simp only[ah₀,if_false];omega
 rw[er]at m1;rw[ec]at m2;refine stG rfl rfl ?_;unfold Ql;simp only[kB,aD];refine aA ?_;refine aT ?_;refine aC (uX (s:=s) hs) ?_;rintro v H3 ⟨hx3,rfl⟩;have g0:H3.get H.length=some _:=hx3.get aN;have hl3:=Heap.get_lt g0;have t1:=g9 (a:=row) (b:=s.rr+2) byO byO;have t2:=g9 (a:=col) (b:=s.rc+2) byO byO;have u1:=dV (a:=row.tdiv (s.rr+2)) (b:=s.rr) (A:=200) (B:=200) byO byO byO byO byO;have u2:=dV (a:=col.tdiv (s.rc+2)) (b:=s.rc) (A:=200) (B:=200) byO byO byO byO byO;have u3:=dV (a:=row.tdiv (s.rr+2)*s.rr+lr s row-1) (b:=eO s) (A:=50000) (B:=40000) byO byO byO byO byO;have hx0:=hx3.of_app;refine aA ?_;refine aK ?_;exact⟨hx0,by rw[hI];rfl⟩
theorem IF{w n:Int}(h0:0<=w)(h1:w<=255)(hn:0<=n):EK w n=decide ((w.fdiv (2^(min (7-n.tmod 8).toNat IntKind.i64.bits))).tmod 2=1):=by
 unfold EK;have hp:(0:Int)<2^(min (7-n.tmod 8).toNat IntKind.i64.bits):=Int.pow_pos byO;rw[Int.fdiv_eq_ediv_of_nonneg _ byO];have h3:0<=w/2^(min (7-n.tmod 8).toNat IntKind.i64.bits):=Int.ediv_nonneg h0 byO;have h4:w/2^(min (7-n.tmod 8).toNat IntKind.i64.bits)<=w:=Int.ediv_le_self _ h0;generalize w/2^(min (7-n.tmod 8).toNat IntKind.i64.bits)=x at *;obtain⟨k,rfl⟩:=Int.eq_ofNat_of_zero_le h3;have hk:k<=255:=byO;rw[Int.tmod_eq_emod_of_nonneg h3];have e:(BitVec.ofInt IntKind.i64.bits (k:Int) &&& BitVec.ofInt IntKind.i64.bits 1).toNat=k%2:=by
  show(BitVec.ofInt 64 (k:Int) &&& BitVec.ofInt 64 1).toNat=k%2;rw[BitVec.toNat_and,BitVec.ofInt_natCast,show BitVec.ofInt 64 1=BitVec.ofNat 64 1 by rfl,BitVec.toNat_ofNat,BitVec.toNat_ofNat,Nat.mod_eq_of_lt (show k<2^64 by omega)];exact Nat.and_one_is_mod k
 rw[e,kM byO byO];congr 1
theorem Nb{R C i:Int}(hd:Dim R C)(h0:0<=i)(h1:i<R*C):I4 R C i=(decide (i=R*C-1) || decide (i=R*C-C-2)):=by
 obtain⟨r0,r1,c0,c1⟩:=hd;unfold I4;rw[Int.tdiv_eq_ediv_of_nonneg h0,Int.tmod_eq_emod_of_nonneg h0];have e:=Int.mul_ediv_add_emod i C;have m0:=Int.emod_nonneg i (show C≠0 by omega);have m1:=Int.emod_lt_of_pos i (show 0<C by omega);have d0:0<=i/C:=Int.ediv_nonneg h0 byO;have d1:i/C<R:=Int.ediv_lt_of_lt_mul byO h1;generalize i/C=q at *;generalize i%C=m at *;have key:∀k,q=k->C*q=C*k:=fun k h=>by rw[h]
 have hlt:∀k,q<k->C*q+C<=C*k:=by
  intro k hk;have:=Int.mul_le_mul_of_nonneg_left (show q+1<=k by omega) (show 0<=C by omega);rw[Int.mul_add]at this;omega
 have s1:C*(R-1)=R*C-C:=by rw[Int.mul_sub,Int.mul_comm C R];omega
 have s2:C*(R-2)=R*C-C-C:=by rw[Int.mul_sub,Int.mul_comm C R];omega
 rw[Bool.eq_iff_iff];simp only[ar₀,ac₀,af₀];constructor
 ·rintro(⟨a,b⟩|⟨a,b⟩)
  ·have:=key _ a;omega
  ·have:=key _ a;omega
 ·rintro(a|a)
  ·by_cases h:q<R-1
   ·have:=hlt _ h;omega
   ·have hq:q=R-1:=byO
    have:=key _ hq;omega
  ·by_cases h:q<R-2
   ·have:=hlt _ h;omega
   ·by_cases h':q=R-2
    ·have:=key _ h';omega
    ·have hq:q=R-1:=byO
     have:=key _ hq;omega
theorem PU{va vb:Value}{a b:List Bool}{w y w' y':Int}(hsm:a.length<=1000000000)(hb:b.length<=9000000000000000000)(ha:SlB H va a)(hbb:SlB H vb b) :
  Ev cp lo 20 [.agg #[.int .i64 w,.int .i64 y,va],.agg #[.int .i64 w',.int .i64 y',vb]] H (fun v H'=>Ext H H'/\v=.bool (decide (w=w')&&decide (y=y')&&decide (a=b))):=by
 have ha0:=ha;have hb0:=hbb;obtain⟨ada,ca,rfl⟩:=ha.len;obtain⟨adb,cb,rfl⟩:=hbb.len;refine stG rfl rfl ?_;unfold Pz;simp only[kB,aD];refine aA ?_;refine aP ?_ ?_<;>intro h
 ·have hne:¬ (w=w'/\y=y'/\a=b):=by
   rintro⟨rfl,rfl,rfl⟩;simp at h
  clear h;refine aA ?_;refine aK ?_;refine⟨Ext.app _ _,?_⟩;simp only[aM];congr 1
  symm
  rw[Bool.eq_false_iff];simpa[ac₀,and_assoc]using hne
 have hc:=h;clear h;have hwh:w=w'/\y=y'/\a.length=b.length:=by simp at hc;omega
 obtain⟨rfl,rfl,hlen⟩:=hwh;have hlen':a.length<=b.length/\b.length<=a.length:=byO;clear hc hlen;refine aA ?_;refine c8 (fun S H'=>H'=H++[some [.int .i64 w,.int .i64 y,.slice ada a.length ca],some [.int .i64 w,.int .i64 y,.slice adb b.length cb]]/\a=b/\∃z0 z1 i,S=[z0,z1,.pointer (some ⟨H.length,0,none⟩),.pointer (some ⟨H.length+1,0,none⟩),.bool false,.int .i64 (i:Nat)]) ?_ ?_
 ·refine aS (fun i S H'=>H'=H++[some [.int .i64 w,.int .i64 y,.slice ada a.length ca],some [.int .i64 w,.int .i64 y,.slice adb b.length cb]]/\(∀j,j<i->a.getD j false=b.getD j false)/\∃z0 z1,S=[z0,z1,.pointer (some ⟨H.length,0,none⟩),.pointer (some ⟨H.length+1,0,none⟩),.bool false,.int .i64 (i:Nat)]) a.length ?_ ?_ ?_ ?_
  ·exact⟨rfl,byO,_,_,rfl⟩
  ·rintro k S H' hk ⟨rfl,-,z0,z1,rfl⟩
   exact⟨_,aN,by simp⟩
  ·rintro i S H' hi ⟨rfl,hall,z0,z1,rfl⟩
   obtain⟨xb,xo,xsp,xc,xs,e1,g1,f1,l1⟩:=ha0.els false byO;obtain⟨yb,yo,ysp,yc,ys,e2,g2,f2,l2⟩:=hb0.els false byO;cases e1;cases e2;have k1:=f1 i hi;have k2:=f2 i byO;have q1:=Heap.get_lt g1;have q2:=Heap.get_lt g2;clear f1 f2;(try simp only[aD]);refine aP ?_ ?_<;>intro h
   ·have hne:¬ a=b:=by
     rintro rfl;rw[beq_self_eq_true]at h;simp at h
    clear h;refine aA ?_;refine aK ?_;exact⟨Ext.app _ _,by simp[aM,hne]⟩
   ·have he:a.getD i false=b.getD i false:=by simpa using h
    clear h;refine aA ?_;refine⟨by trivial,fun j hj=>?_,_,_,ncM⟩;by_cases e:j=i
    ·subst e;exact he
    ·exact hall j byO
  ·rintro S H' ⟨rfl,hall,z0,z1,rfl⟩
   refine⟨rfl,?_,_,_,_,rfl⟩;apply List.ext_getElem byO;intro i h1 h2;have:=hall i h1;simpa[au₀,bc₀ h1,bc₀ h2]using this
 rintro S H' ⟨rfl,rfl,z0,z1,i,rfl⟩;refine aA ?_;refine aK ?_;exact⟨Ext.app _ _,by simp[aM]⟩
end Go.Proofs.YtmnlgdpdgjbfgaaGreat
namespace Go.RS
def clB:Nat->Nat->Nat->Nat
 | 0,_,_=>0
 | k+1,a,b=>clB k a b ^^^ (if b.testBit k then a <<< k else 0)
theorem GH(b k:Nat):b%2^(k+1)=b%2^k ^^^ (if b.testBit k then 2^k else 0):=by
 refine Nat.eq_of_testBit_eq fun i=>?_
 grind
theorem E5(a b:Nat):∀k,cl a (b%2^k)=clB k a b
 | 0=>by rw[Nat.pow_zero,Nat.mod_one,fw];rfl
 | k+1=>by
  have h:cl a (if b.testBit k=true then 2^k else 0)=if b.testBit k=true then a <<< k else 0:=by
   grind[gP,fw]
  rw[GH,jd,E5 a b k,h];rfl
theorem E4{a b n:Nat}(ha:a<2^n):∀k,clB k a b<2^(n+k)
 | 0=>Nat.two_pow_pos _
 | k+1=>by
  refine Nat.xor_lt_two_pow (bd₀ (E4 ha k) (Nat.pow_le_pow_right byO byO)) ?_;split
  ·rw[Nat.shiftLeft_eq,show n+(k+1)=(n+1)+k by omega,Nat.pow_add]
   exact Nat.mul_lt_mul_of_pos_right (bd₀ ha (Nat.pow_le_pow_right byO byO)) (Nat.two_pow_pos _)
  grind
def rdG(q d:Nat):Nat->Nat->Nat
 | 0,p=>p
 | k+1,p=>rdG q d k (if p.testBit (d+k) then p ^^^ (q <<< k) else p)
theorem Gj{q d:Nat}(hq:q≠0):∀(k p:Nat),rm (rdG q d k p) q=rm p q
 | 0,_=>rfl
 | k+1,p=>by
  show rm (rdG q d k _) q=_;rw[Gj hq k];split
  ·rw[<-gP,wU hq]
  ·rfl
theorem K7{p r n:Nat}(hp:p<2^(n+1))(hr:r<2^(n+1))(h1:p.testBit n=true)(h2:r.testBit n=true):p ^^^ r<2^n:=by
 refine Nat.lt_pow_two_of_testBit _ fun i hi=>?_
 grind[Nat.testBit_lt_two_pow,Nat.lt_of_lt_of_le,Nat.pow_le_pow_right]
theorem Fz{p n:Nat}(hp:p<2^(n+1))(h1:¬ p.testBit n=true):p<2^n:=by
 grind[Nat.lt_pow_two_of_testBit,Nat.testBit_lt_two_pow,Nat.lt_of_lt_of_le,Nat.pow_le_pow_right]
theorem Gi{q d:Nat}(hq:q≠0)(hd:q.log2=d):∀(k p:Nat),p<2^(d+k)->rdG q d k p<2^d
 | 0,p,h=>h
 | k+1,p,h=>by
  refine Gi hq hd k _ ?_;split
  ·rename_i hb
   refine K7 h ?_ hb ?_
   ·have h1:=cV q
    rw[Nat.shiftLeft_eq,show d+k+1=(d+1)+k by omega,Nat.pow_add]
    simp_all[Nat.two_pow_pos]
   grind[j0]
  ·rename_i hb
   exact Fz h hb
theorem Gs{q d k p:Nat}(hq:q≠0)(hd:q.log2=d)(hp:p<2^(d+k)):rm p q=rdG q d k p:=by
 grind[Gj,ic,Gi]
def JZ(q a b:Nat):Nat:=rdG q 8 8 (clB 8 a b)
theorem J0{q a b:Nat}(hq:q≠0)(hd:q.log2=8)(ha:a<256)(hb:b<256):eH ⟨256,q⟩ a b=JZ q a b:=by
 unfold eH;rw[if_neg hq];have h1:cl a b=clB 8 a b:=by
  have:=E5 a b 8
  grind
 rw[h1,Gs hq hd (k:=8) (E4 (n:=8) ha 8)];rfl
def R4(q:Nat):Bool:=(List.range 32).all fun t=>decide (t<2) || decide (rdG t t.log2 9 q≠0)
theorem Nm{q:Nat}(hd:q.log2=8)(hq:q<512)(h:R4 q=true):Irr q:=by
 intro t ht hl;rintro⟨m,hm⟩;have ht0:t≠0:=byO;have hlt:t<32:=by
  have:=cV t;have h5:2^(t.log2+1)<=2^5:=Nat.pow_le_pow_right byO byO;omega
 have h2:=List.all_eq_true.1 h t (List.mem_range.2 hlt);simp at h2;have h3:rdG t t.log2 9 q≠0:=h2.resolve_left byO;apply h3;rw[<-Gs ht0 rfl (k:=9) (bd₀ hq (Nat.pow_le_pow_right (n:=2) byO (by omega:9<=t.log2+9)))];exact uk ht0 (m:=m) (Nat.two_pow_pos _) (by simp_all)
structure BF (q:Nat):Prop where
 lg:q.log2=8
 lt:q<512
 ne:q≠0
 two:2<=q
 irr:R4 q=true
def fB(q:Nat):FD:=⟨256,q⟩
theorem BF.ok{q:Nat}(h:BF q):(fB q).Ok:=.inr ⟨h.ne,h.two,by show q.log2<=12;grind[lg],by show 256=2^q.log2;rw[h.lg],Nm h.lg h.lt h.irr⟩
def eB(q n:Nat):El (fB q):=⟨n%256,Nat.mod_lt _ (by decide)⟩
section
variable {q:Nat}[h:OkC (fB q)]
theorem GI(hb:BF q)(x y:El (fB q)):(x*y).val=JZ q x.val y.val:=by
 exact J0 hb.ne hb.lg x.lt y.lt
def pwB(q x:Nat):Nat->Nat
 | 0=>1
 | n+1=>JZ q (pwB q x n) x
theorem wQ(hb:BF q)(x:El (fB q)):∀n,(pw x n).val=pwB q x.val n
 | 0=>rfl
 | n+1=>by rw[eC,GI hb,wQ hb x n];rfl
def vL(q:Nat):Nat->List Nat->Bool
 | _,[]=>true
 | v,w::l=>Nat.beq (JZ q v 2) w&&vL q w l
theorem xJ(q:Nat):∀(l:List Nat) (v n:Nat),pwB q 2 n=v->vL q v l=true->∀i,i<l.length->pwB q 2 (n+1+i)=l.getD i 0
 | [],_,_,_,_,i,hi=>by simp at hi
 | w::l,v,n,hv,h,i,hi=>by
  unfold vL at h;simp at h;have h1:pwB q 2 (n+1)=w:=by
   grind[pwB,Nat.eq_of_beq_eq_true]
  match i with
  | 0=>exact h1
  | i+1=>
   have:=xJ q l w (n+1) h1 h.2 i (by simp_all)
   grind
def Nf(q:Nat)(l:List Nat):Bool:=vL q 1 l&&(decide (l.length=255)&&(decide (l.getD 254 0=1)&&(l.take 254).all fun x=>!Nat.beq x 1))
theorem Jb(hb:BF q){l:List Nat}(hg:Nf q l=true):Ord (eB q 2) 255:=by
 unfold Nf at hg;simp only[ac₀,af₀]at hg;obtain⟨h1,h2,h3,h4⟩:=hg;have hc:=xJ q l 1 0 rfl h1;refine⟨by decide,El.ext ?_,fun m h5 h6 e=>?_⟩
 ·rw[wQ hb]
  have:=hc 254 byO;rw[h3]at this;exact this
 ·have h7:=hc (m-1) byO
  rw[show 0+1+(m-1)=m by omega]at h7;have h8:pwB q 2 m=1:=by
   have:=wQ hb (eB q 2) m;rw[e]at this;exact this.symm
  have hm:l.getD (m-1) 0 ∈ l.take 254:=by
   grind[List.mem_take_iff_getElem]
  have h9:=List.all_eq_true.1 h4 _ hm;rw[<-h7,h8]at h9;exact absurd h9 (by decide)
theorem yR:¬ Ord (eB q 1) 255:=fun h=>by
 have:eB q 1=1:=El.ext rfl;rw[this]at h;exact h.2.2 1 (by decide) (by decide) (by rw[p9])
end
theorem bf285:BF 285:=⟨by rfl,by decide,by decide,by decide,by rfl⟩
theorem bf301:BF 301:=⟨by rfl,by decide,by decide,by decide,by rfl⟩
def PG:List Nat:=[2,4,8,16,32,64,128,45,90,180,69,138,57,114,228,229,231,227,235,251,219,155,27,54,108,216,157,23,46,92,184,93,186,89,178,73,146,9,18,36,72,144,13,26,52,104,208,141,55,110,220,149,7,14,28,56,112,224,237,247,195,171,123,246,193,175,115,230,225,239,243,203,187,91,182,65,130,41,82,164,101,202,185,95,190,81,162,105,210,137,63,126,252,213,135,35,70,140,53,106,212,133,39,78,156,21,42,84,168,125,250,217,159,19,38,76,152,29,58,116,232,253,215,131,43,86,172,117,234,249,223,147,11,22,44,88,176,77,154,25,50,100,200,189,87,174,113,226,233,255,211,139,59,118,236,245,199,163,107,214,129,47,94,188,85,170,121,242,201,191,83,166,97,194,169,127,254,209,143,51,102,204,181,71,142,49,98,196,165,103,206,177,79,158,17,34,68,136,61,122,244,197,167,99,198,161,111,222,145,15,30,60,120,240,205,183,67,134,33,66,132,37,74,148,5,10,20,40,80,160,109,218,153,31,62,124,248,221,151,3,6,12,24,48,96,192,173,119,238,241,207,179,75,150,1]
theorem Nc:Nf 301 PG=true:=by decide +kernel
instance ok285:OkC (fB 285):=⟨bf285.ok⟩
instance ok301:OkC (fB 301):=⟨bf301.ok⟩
end Go.RS
namespace Go.Proofs.YtmnlgdpdgjbfgaaGreat
open Go.Abs Go.RS
variable{H:Heap}{lo:Nat}{n:Nat}
set_option maxRecDepth 20000
theorem vk{a b A B:Int}(h1:-A<=a)(h2:a<=A)(h3:0<=b)(h4:b<=B)(hA:0<=A):-(A*B)<=a*b/\a*b<=A*B:=by
 have e1:a*b<=A*b:=Int.mul_le_mul_of_nonneg_right h2 h3;have e2:A*b<=A*B:=Int.mul_le_mul_of_nonneg_left h4 hA;have e3:-A*b<=a*b:=Int.mul_le_mul_of_nonneg_right h1 h3;rw[Int.neg_mul]at e3;omega
theorem JM{s:ByteArray}{k:IntKind}{i:Int}{b:UInt8}(h0:0<=i)(hs:s[i.toNat]?=some b):aJ .idxS [.string s,.int k i] H=some (.int .u8 b.toNat):=by
 simp[aJ,h0,hs]
def bY(n:Nat):Nat:=if n=0 then 0 else n.log2+1
theorem oQ{x k:Nat}(h:2^k<=x):bY x=k+bY (x/2^k):=by
 have hp:0<2^k:=Nat.pow_pos byO;have hy:x/2^k≠0:=by
  have:=(Nat.le_div_iff_mul_le hp).2 (show 1*2^k<=x by omega);omega
 have hx:x≠0:=byO;unfold bY;rw[if_neg hx,if_neg hy];have h1:=gH hy;have h2:=cV (x/2^k);have h3:2^((x/2^k).log2+k)<=x:=by
  rw[Nat.pow_add];exact Nat.le_trans (Nat.mul_le_mul_right _ h1) (Nat.div_mul_le_self x _)
 have h4:x<2^((x/2^k).log2+k+1):=by
  have:x<(x/2^k+1)*2^k:=Nat.lt_mul_of_div_lt byO hp;have h5:(x/2^k+1)*2^k<=2^((x/2^k).log2+1)*2^k:=Nat.mul_le_mul_right _ byO;rw[<-Nat.pow_add,show(x/2^k).log2+1+k=(x/2^k).log2+k+1 by omega]at h5;omega
 rw[lU h3 h4];omega
theorem eA{n k:Nat}(h:n<2^k):bY n<=k:=by
 unfold bY;split
 ·omega
 ·rename_i hn
  have:=Nat.lt_of_le_of_lt (gH hn) h;have:=(Nat.pow_lt_pow_iff_right (by omega:1<2)).1 this;omega
set_option maxRecDepth 100000 in
theorem Np:((List.range 256).all fun i=>match JA[i]? with|some b=>b.toNat==bY i|none=>false)=true:=by kernel_rfl
theorem No{i:Nat}(h:i<256):∃b,JA[i]?=some b/\b.toNat=bY i:=by
 have:=List.all_eq_true.1 Np i (by simpa using h);split at this
 ·rename_i b hb;exact⟨b,hb,by simpa using this⟩
 ·cases this
theorem mV(n:Nat)(k:Nat)(ik:IntKind)(hk:k<=ik.bits):(n:Int).fdiv (2^(min k ik.bits))=((n/2^k:Nat):Int):=by
 rw[Nat.min_eq_left hk,Int.fdiv_eq_ediv_of_nonneg _ (Int.le_of_lt (Int.pow_pos byO))];simp
namespace XGa
def xtr:=@Int.cast_ofNat_Int
end XGa
open XGa
theorem R6(hn:n<2^64):Ev cp lo 204 [.int .u64 n] H (fun v H'=>H'=H/\v=.int .i64 (bY n:Nat)):=by
 refine stG rfl rfl ?_;unfold Lg;simp only[kB,aD];refine eP ?_;have s32:=mV n 32 .u64 (by decide);refine eG (fun S' H'=>H=H'/\∃x s:Nat,x<2^32/\s<=32/\bY n=s+bY x/\S'=[.int .u64 x,.int .i64 s]) ?_ ?_
 ·refine mh ?_ ?_<;>intro h
  ·have hc:4294967296<=n:=by simp at h;omega
   clear h;refine eP ?_;exact⟨by trivial,n/2^32,32,byO,byO,oQ byO,by simp only[show Int.toNat 32=32 from rfl,s32];rfl⟩
  ·have hc:n<4294967296:=by simp at h;omega
   clear h;(try simp only[aD]);exact⟨by trivial,n,0,byO,byO,byO,rfl⟩
 rintro S' H' ⟨rfl,x,s,hx,hs,he,rfl⟩;(try simp only[aD]);have s16:=mV x 16 .u64 (by decide);refine eG (fun S' H'=>H=H'/\∃x s:Nat,x<2^16/\s<=48/\bY n=s+bY x/\S'=[.int .u64 x,.int .i64 s]) ?_ ?_
 ·refine mh ?_ ?_<;>intro h
  ·have hc:65536<=x:=by simp at h;omega
   clear h;refine eP ?_;exact⟨by trivial,x/2^16,s+16,byO,byO,by rw[he,oQ (k:=16) (x:=x) byO];omega,by simp only[show Int.toNat 16=16 from rfl,s16,ap₀];rfl⟩
  ·have hc:x<65536:=by simp at h;omega
   clear h;(try simp only[aD]);exact⟨by trivial,x,s,byO,byO,byO,rfl⟩
 clear s32 s16 hx hs he;rintro S' H' ⟨rfl,x,s,hx,hs,he,rfl⟩;(try simp only[aD]);have s8:=mV x 8 .u64 (by decide);refine eG (fun S' H'=>H=H'/\∃x s:Nat,x<2^8/\s<=56/\bY n=s+bY x/\S'=[.int .u64 x,.int .i64 s]) ?_ ?_
 ·refine mh ?_ ?_<;>intro h
  ·have hc:256<=x:=by simp at h;omega
   clear h;refine eP ?_;exact⟨by trivial,x/2^8,s+8,byO,byO,by rw[he,oQ (k:=8) (x:=x) byO];omega,by simp only[show Int.toNat 8=8 from rfl,s8,ap₀];rfl⟩
  ·have hc:x<256:=by simp at h;omega
   clear h;(try simp only[aD]);exact⟨by trivial,x,s,byO,byO,byO,rfl⟩
 clear s8 hx hs he;rintro S' H' ⟨rfl,x,s,hx,hs,he,rfl⟩;obtain⟨b,hb,hbl⟩:=No (show x<256 by omega);have hbl2:=eA hx;have hb2:JA[(x:Int).toNat]?=some b:=hb;have hidx:=JM (H:=H) (k:=.u8) (i:=(x:Int)) byO hb2;clear hb hb2;refine eP ?_;refine qY ?_;refine⟨rfl,?_⟩;rw[he,<-hbl];rfl
theorem Tm(hn:n<2^64):Ev cp lo 189 [.int .u64 n] H (fun v H'=>H'=H/\v=.int .i64 (bY n:Nat)):=by
 refine stG rfl rfl ?_;unfold L0;simp only[kB,aD];refine eP ?_;refine Ti ?_;refine n9 ?_;refine aC (R6 hn) ?_;rintro v H1 ⟨rfl,rfl⟩;refine eP ?_;refine qY ?_;exact⟨rfl,rfl⟩
theorem degree(hn:n<2^63):Ev cp lo 149 [.int .i64 n] H (fun v H'=>H'=H/\v=.int .i64 ((bY n:Nat)-1)):=by
 have hl:=eA hn;refine stG rfl rfl ?_;unfold LG;simp only[kB,aD];refine eP ?_;refine Pm ?_;refine aC (Tm (n:=n) byO) ?_;rintro v H1 ⟨rfl,rfl⟩;refine eP ?_;refine qY ?_;exact⟨rfl,rfl⟩
def PrN(n:Nat):Prop:=∀d,2<=d->d*d<=n->n%d≠0
theorem Bz(h:2<=n):PrN n↔Pr n:=by
 constructor
 ·intro hp
  refine⟨h,fun d hd hlt hdvd=>?_⟩;obtain⟨e,he⟩:=hdvd;have he2:2<=e:=by
   rcases Nat.lt_or_ge e 2 with h1|h1
   ·exfalso
    have:e=0\/e=1:=byO;rcases this with rfl|rfl
    ·simp at he;omega
    ·simp at he;omega
   ·exact h1
  rcases Nat.le_total d e with h1|h1
  ·exact hp d hd (by rw[he];exact Nat.mul_le_mul_left d h1) (by rw[he];exact Nat.mul_mod_right d e)
  ·exact hp e he2 (by rw[he];exact Nat.mul_le_mul_right e h1) (by rw[he];exact Nat.mul_mod_left d e)
 ·intro hp d hd hle hmod
  have:d*2<=d*d:=Nat.mul_le_mul_left d hd;exact hp.2 d hd byO (Nat.dvd_of_mod_eq_zero hmod)
theorem Sc(hn:n<=4096):Ev cp lo 148 [.int .i64 n] H (fun v H'=>H'=H/\∃b,v=.bool b/\(b=true↔PrN n)):=by
 refine stG rfl rfl ?_;unfold LD;simp only[kB,aD];refine eP ?_;refine aY (fun m S H'=>∃(d:Nat),2<=d/\d<=n+2/\m=n+3-d/\H=H'/\(∀e,2<=e->e<d->e*e<=n->n%e≠0)/\S=[.int .i64 n,.bool false,.int .i64 d]) (n+1) ?_ ?_
 ·exact⟨2,byO,byO,byO,rfl,fun e h1 h2=>byO,rfl⟩
 rintro m S H' ⟨d,h2,hle,rfl,rfl,hno,rfl⟩;have hm:=vk (a:=(d:Int)) (b:=(d:Int)) (A:=5000) (B:=5000) byO byO byO byO byO;(try simp only[aD]);refine mh ?_ ?_<;>intro h
 ·have hc:d*d<=n:=by simp at h;omega
  clear h;have hdn:d<=n:=Nat.le_trans (Nat.le_mul_of_pos_left d byO) hc;have hmod:(n:Int).tmod (d:Int)=((n%d:Nat):Int):=by rw[Int.tmod_eq_emod_of_nonneg byO];rfl
  (try simp only[aD]);refine mh ?_ ?_<;>intro h
  ·have hz:n%d=0:=by simp at h;omega
   clear h hmod;refine eP ?_;refine qY ?_;exact⟨rfl,false,rfl,by simp;exact fun hp=>hp d h2 hc hz⟩
  ·have hz:n%d≠0:=by simp at h;omega
   clear h hmod;refine eP ?_;simp only[ak];refine⟨n+3-(d+1),byO,d+1,byO,byO,rfl,by trivial,fun e h1 h3=>?_,ncM⟩;by_cases e2:e=d
   ·subst e2;exact fun _=>hz
   ·exact hno e h1 byO
 ·have hc:¬ d*d<=n:=by simp at h;omega
  clear h;refine eP ?_;refine qY ?_;refine⟨rfl,true,rfl,?_⟩;simp only[true_iff];intro e h1 h3;refine hno e h1 ?_ h3;apply Decidable.byContradiction;intro hge;exact hc (Nat.le_trans (Nat.mul_le_mul (show d<=e by omega) (show d<=e by omega)) h3)
theorem dU(h:n≠0):bY n=n.log2+1:=by unfold bY;rw[if_neg h]
theorem pR:bY 0=0:=rfl
theorem A4{p q:Nat}(hq:q≠0)(hp:p≠0)(hle:q.log2<=p.log2):p ^^^ q <<< (p.log2-q.log2)<2^p.log2:=by
 have hp2:(2:Nat)^(p.log2-q.log2)≠0:=Nat.pos_iff_ne_zero.1 (Nat.pow_pos byO);have hs:(q <<< (p.log2-q.log2)).log2=p.log2:=by
  rw[<-gP,zS hq hp2,lU (Nat.le_refl _) (Nat.pow_lt_pow_right byO byO)];omega
 have hs0:q <<< (p.log2-q.log2)≠0:=by rw[<-gP];exact rK hq hp2
 refine Nat.lt_pow_two_of_testBit _ fun i hi=>?_;rw[Nat.testBit_xor];by_cases e:i=p.log2
 ·have:=j0 hs0
  rw[hs]at this;rw[e,j0 hp,this];rfl
 ·have h1:p.testBit i=false:=mj (cV p) i byO
  have h2:(q <<< (p.log2-q.log2)).testBit i=false:=mj (cV (q <<< (p.log2-q.log2))) i byO;rw[h1,h2];rfl
theorem ig{a b:Nat}(ha:a<2^63)(hb:b<2^63):IntKind.i64.wrap ((BitVec.ofInt IntKind.i64.bits (a:Int) ^^^ BitVec.ofInt IntKind.i64.bits (b:Int)).toNat:Int)=((a ^^^ b:Nat):Int):=by
 rw[show IntKind.i64.bits=64 from rfl,BitVec.ofInt_natCast,BitVec.ofInt_natCast,BitVec.toNat_xor,BitVec.toNat_ofNat,BitVec.toNat_ofNat,Nat.mod_eq_of_lt byO,Nat.mod_eq_of_lt byO];have:a ^^^ b<2^63:=Nat.xor_lt_two_pow ha hb;rw[kM byO byO]
theorem kr{a k:Nat}(h:a*2^k<2^63)(hk:k<=62):IntKind.i64.wrap ((a:Int)*2^(min k IntKind.i64.bits))=((a <<< k:Nat):Int):=by
 rw[show IntKind.i64.bits=64 from rfl,Nat.min_eq_left byO,Nat.shiftLeft_eq];have e:(a:Int)*2^k=((a*2^k:Nat):Int):=by simp
 rw[e,kM byO byO]
theorem HK{q a b:Nat}(h:q<2^b):q <<< a<2^(b+a):=by
 rw[Nat.shiftLeft_eq,Nat.pow_add];exact Nat.mul_lt_mul_of_pos_right h (Nat.pow_pos byO)
theorem D5{p q:Nat}(hp:p<2^62)(hq:q<2^62)(hq0:q≠0):Ev cp lo 190 [.int .i64 p,.int .i64 q] H (fun v H'=>H'=H/\v=.int .i64 (rm p q:Nat)):=by
 have hlq:=dU hq0;have hlq2:=eA hq;refine stG rfl rfl ?_;unfold L5;simp only[kB,aD];refine eP ?_;refine aY (fun m S H'=>∃(x:Nat) (z3 z4 z5 z6 z7 z8:Value),x<2^62/\m=x/\H=H'/\rm x q=rm p q/\S=[.int .i64 (x:Nat),.int .i64 (q:Nat),.int .i64 0,z3,z4,z5,z6,z7,z8]) p ?_ ?_
 ·exact⟨p,_,_,_,_,_,_,hp,rfl,rfl,rfl,rfl⟩
 rintro m S H' ⟨x,z3,z4,z5,z6,z7,z8,hx,rfl,rfl,hrm,rfl⟩;have hlx:=eA hx;refine n9 ?_;refine aC (degree (n:=m) byO) ?_;rintro v H1 ⟨rfl,rfl⟩;refine n9 ?_;refine aC (degree (n:=q) byO) ?_;rintro v H2 ⟨rfl,rfl⟩;(try simp only[aD]);refine mh ?_ ?_<;>intro h
 ·have hc:bY q<=bY m:=by simp at h;omega
  clear h;have hm0:m≠0:=by rintro rfl;rw[pR]at hc;omega
  have hlm:=dU hm0;have hred:=A4 hq0 hm0 byO;have hml:=gH hm0;have e1:((bY m:Nat):Int)-1-((bY q:Nat)-1)=((m.log2-q.log2:Nat):Int):=byO;have hsl:q <<< (m.log2-q.log2)<2^(q.log2+1+(m.log2-q.log2)):=HK (cV q);have hpw:2^(q.log2+1+(m.log2-q.log2))<=2^62:=Nat.pow_le_pow_right byO byO;have hsl2:=hsl;rw[Nat.shiftLeft_eq]at hsl2;have e2:=kr (a:=q) (k:=m.log2-q.log2) byO byO;have e3:=ig (a:=m) (b:=q <<< (m.log2-q.log2)) byO byO;refine n9 ?_;refine aC (degree (n:=m) byO) ?_;rintro v H1 ⟨rfl,rfl⟩;refine n9 ?_;refine aC (degree (n:=q) byO) ?_;rintro v H2 ⟨rfl,rfl⟩;clear hlm hlq;refine eP ?_;simp only[ak];exact⟨m ^^^ q <<< (m.log2-q.log2),byO,_,_,_,_,_,_,_,byO,rfl,by trivial,by rw[<-hrm,<-gP,wU hq0],rfl⟩
 ·have hc:bY m<bY q:=by simp at h;omega
  clear h;have hmr:rm m q=m:=by
   apply ic hq0;by_cases hm0:m=0
   ·rw[hm0];exact Nat.pow_pos byO
   ·rw[dU hm0]at hc
    exact bd₀ (cV m) (Nat.pow_le_pow_right byO byO)
  rw[hmr]at hrm;refine eP ?_;refine qY ?_;exact⟨rfl,by rw[<-hrm];rfl⟩
theorem CB{p t:Nat}(ht:t≠0):rm p t=0↔∃m,p=cl t m:=by
 constructor
 ·intro h
  obtain⟨m,hm⟩:=uj ht p;rw[h,Nat.xor_zero]at hm;exact⟨m,hm⟩
 ·rintro⟨m,rfl⟩
  exact uk ht (Nat.pow_pos byO) (m:=m) (by rw[Nat.xor_zero])
theorem yG{a b:Nat}(h:a<=b)(ha:a≠0):a.log2<=b.log2:=by
 have h1:=gH ha;have h2:=cV b;have:2^a.log2<2^(b.log2+1):=byO;have:=(Nat.pow_lt_pow_iff_right (by omega:1<2)).1 this;omega
theorem irreducible{p:Nat}(hp:p<2^62)(h2:2<=p):Ev cp lo 150 [.int .i64 p] H (fun v H'=>H'=H/\∃b,v=.bool b/\(b=true↔Irr p)):=by
 have hlp:=dU (n:=p) byO;have hlp2:=eA hp;refine stG rfl rfl ?_;unfold LH;simp only[kB,aD];refine eP ?_;refine aY (fun m S H'=>∃(q:Nat) (z3 z4 z5 z6:Value),2<=q/\q<=p+1/\m=p+2-q/\H=H'/\(∀t,2<=t->t<q->2*t.log2<=p.log2->¬ ∃m,p=cl t m)/\S=[.int .i64 (p:Nat),.bool false,.int .i64 (q:Nat),z3,z4,z5,z6]) p ?_ ?_
 ·exact⟨2,_,_,_,_,byO,byO,byO,rfl,fun t h1 h2=>byO,rfl⟩
 rintro m S H' ⟨q,z3,z4,z5,z6,hq2,hqp,rfl,rfl,hno,rfl⟩;have hq0:q≠0:=byO;have hlq:=dU hq0;have hlq2:=eA (show q<2^63 by omega);refine n9 ?_;refine aC (degree (n:=q) byO) ?_;rintro v H1 ⟨rfl,rfl⟩;refine n9 ?_;refine aC (degree (n:=p) byO) ?_;rintro v H2 ⟨rfl,rfl⟩;clear hlq2 hlp2;have hlq':bY q<=q.log2+1/\q.log2+1<=bY q:=byO;have hlp':bY p<=p.log2+1/\p.log2+1<=bY p:=byO;have hlq3:=eA (show q<2^63 by omega);have hlp3:=eA (show p<2^63 by omega);clear hlq hlp;(try simp only[aD]);refine mh ?_ ?_<;>intro h
 ·have hc:2*q.log2<=p.log2:=by simp at h;omega
  clear h;have hlt:q<p:=by
   have h1:=oT hq2;have h3:=cV q;have h4:2^(q.log2+1)<=2^p.log2:=Nat.pow_le_pow_right byO byO;have h5:=gH (show p≠0 by omega);omega
  refine n9 ?_;refine aC (D5 (p:=p) (q:=q) hp byO hq0) ?_;rintro v H1 ⟨rfl,rfl⟩;have hz:=CB (p:=p) hq0;(try simp only[aD]);refine mh ?_ ?_<;>intro h
  ·have hr:rm p q=0:=by simp at h;omega
   clear h;refine eP ?_;refine qY ?_;exact⟨rfl,false,rfl,by simp;exact fun hi=>hi q hq2 hc (hz.1 hr)⟩
  ·have hr:rm p q≠0:=by simp at h;omega
   clear h;refine eP ?_;simp only[ak];refine⟨p+2-(q+1),byO,q+1,_,_,_,_,byO,byO,rfl,by trivial,fun t h1 h3=>?_,ncM⟩;by_cases e:t=q
   ·subst e;exact fun _ hm=>hr (hz.2 hm)
   ·exact hno t h1 byO
 ·have hc:p.log2<2*q.log2:=by simp at h;omega
  clear h;refine eP ?_;refine qY ?_;refine⟨rfl,true,rfl,?_⟩;simp only[true_iff];intro t h1 h3;refine hno t h1 ?_ h3;apply Decidable.byContradiction;intro hge;have:=yG (show q<=t by omega) hq0;omega
end Go.Proofs.YtmnlgdpdgjbfgaaGreat
