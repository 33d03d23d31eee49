/- Lemmas. -/
import Derived.Test.YtmnlgdpdgjbfgaaGreatD9
import Derived.Test.YtmnlgdpdgjbfgaaGreatD29
import Derived.Test.YtmnlgdpdgjbfgaaGreatD30
import Derived.Test.YtmnlgdpdgjbfgaaGreatD31
import Derived.Test.YtmnlgdpdgjbfgaaGreatD35
import Derived.Test.YtmnlgdpdgjbfgaaGreatD36
import Derived.Test.YtmnlgdpdgjbfgaaGreatD37
import Derived.Test.YtmnlgdpdgjbfgaaGreatD38
set_option linter.all false
namespace Go.Proofs.YtmnlgdpdgjbfgaaGreat
open Go.Abs
variable{H:Heap}{lo:Nat}
open XJWd
def WordsX(H:Heap)(v:Value)(ws:List Int):Prop:=(v=.slice none 0 0/\ws=[])\/∃b sp cap xs,v=.slice (some ⟨b,0,sp⟩) ws.length cap/\H.get b=some (bN xs)/\(∀i,i<ws.length->xs.getD i 0=ws.getD i 0)/\ws.length<=xs.length/\ws.length<=cap/\(sp=none\/sp=some 1)
theorem WordsX.sli{H:Heap}{v:Value}{ws:List Int}(h:WordsX H v ws):SlI H v ws:=by
 rcases h with h|⟨b,sp,cap,xs,h1,h2,h3,h4,h5,h6⟩
 ·exact .inl h
 ·refine .inr ⟨b,0,sp,cap,bN xs,h1,h2,?_,by simpa[bN]using h4,h6,h5⟩
  rw[List.drop_zero];refine List.ext_getElem? fun i=>?_;by_cases hi:i<ws.length
  ·have:=h3 i hi
   rw[List.getElem?_take,if_pos hi,bN,az₀,az₀,bb₀ hi,bb₀ byO];simp only[au₀,bb₀ hi,bb₀ (show i<xs.length by omega),aq₀]at this;simp[this]
  ·rw[av₀ (by simp;omega),av₀ (by simp;omega)]
theorem xm{a b:List Int}(hl:a.length=b.length)(h:∀i,i<a.length->a.getD i 0=b.getD i 0):a=b:=by
 apply List.ext_getElem hl;intro i h1 h2;have:=h i h1;simpa[au₀,bb₀ h1,bb₀ h2]using this
theorem xi{R h rr K x:Int}(hR:R=K*h)(hh:h=rr+2)(hrr:0<rr)(h0:0<=x)(hx:x<R)(_:0<=K)(n0:¬ x.tmod h=0)(n1:¬ x.tmod h=rr+1):0<=x.tdiv h*rr+x.tmod h-1/\x.tdiv h*rr+x.tmod h-1<K*rr:=by
 rw[Int.tdiv_eq_ediv_of_nonneg h0]at *;rw[Int.tmod_eq_emod_of_nonneg h0]at *;have m0:=Int.emod_nonneg x (show h≠0 by omega);have m1:=Int.emod_lt_of_pos x (show 0<h by omega);have d0:0<=x/h:=Int.ediv_nonneg h0 byO;have d1:x/h<K:=Int.ediv_lt_of_lt_mul byO (by rw[<-hR];exact hx);have p0:0<=x/h*rr:=Int.mul_nonneg d0 byO;have p1:(x/h+1)*rr<=K*rr:=Int.mul_le_mul_of_nonneg_right byO byO;rw[Int.add_mul]at p1;omega
structure SzFit (s:Sz):Prop where
 hr:s.r=s.r.tdiv (s.rr+2)*(s.rr+2)
 hc:s.c=s.c.tdiv (s.rc+2)*(s.rc+2)
theorem AA:∀s ∈ szs,SzFit s:=by
 have h:szs.all (fun s=>decide (s.r=s.r.tdiv (s.rr+2)*(s.rr+2))&&decide (s.c=s.c.tdiv (s.rc+2)*(s.rc+2)))=true:=by kernel_rfl
 intro s hs;have:=List.all_eq_true.1 h s hs;simp only[ac₀,af₀]at this;exact⟨this.1,this.2⟩
theorem Ks{s:Sz}(hs:SzOK s)(hf:SzFit s)(i:Nat)(hi:(i:Int)<s.r*s.c)(hB:fk s ((i:Int).tdiv s.c) ((i:Int).tmod s.c)=false):0<=eO s ((i:Int).tdiv s.c) ((i:Int).tmod s.c)/\eO s ((i:Int).tdiv s.c) ((i:Int).tmod s.c)<gh s*ez s:=by
 have hmb:=kp hs;obtain⟨r0,r1,c0,c1,rr0,rr1,rc0,rc1,_⟩:=hs;have tm:=eM (a:=i) (m:=s.c) byO byO;have tr:0<=(i:Int).tdiv s.c/\(i:Int).tdiv s.c<s.r:=by
  rw[Int.tdiv_eq_ediv_of_nonneg byO];exact⟨Int.ediv_nonneg byO byO,Int.ediv_lt_of_lt_mul byO hi⟩
 generalize (i:Int).tdiv s.c=row at *;generalize (i:Int).tmod s.c=col at *;have hI:eO s row col=(row.tdiv (s.rr+2)*s.rr+lr s row-1)*ez s+(col.tdiv (s.rc+2)*s.rc+lc s col-1):=by
  unfold eO;rw[hB];simp only[ah₀,if_false];omega
 simp only[fk,Bool.or_eq_false_iff,ai₀]at hB;obtain⟨⟨⟨b1,b2⟩,b3⟩,b4⟩:=hB;have x1:=xi (R:=s.r) (h:=s.rr+2) (rr:=s.rr) (K:=s.r.tdiv (s.rr+2)) (x:=row) hf.hr rfl byO byO byO byO b3 b2;have x2:=xi (R:=s.c) (h:=s.rc+2) (rr:=s.rc) (K:=s.c.tdiv (s.rc+2)) (x:=col) hf.hc rfl byO byO byO byO b1 b4;have x1':0<=row.tdiv (s.rr+2)*s.rr+lr s row-1/\row.tdiv (s.rr+2)*s.rr+lr s row-1<gh s:=x1;have x2':0<=col.tdiv (s.rc+2)*s.rc+lc s col-1/\col.tdiv (s.rc+2)*s.rc+lc s col-1<ez s:=x2;rw[hI];exact tv x1'.1 x1'.2 x2'.1 x2'.2
theorem aV{s:Sz}(hs:s ∈ szs){R C w:Nat}(hR:gh s=R)(hC:ez s=C)(hw:(s.d+s.k).toNat=w)(hdim:(6<=R/\R<=200)/\6<=C/\C<=200)(h:dE R C w=true):∃gf,SizeOrd s gf:=by
 obtain⟨g,h1,h2⟩:=xz h;refine⟨g,?_,?_,?_,Ks (uk s hs) (AA s hs)⟩
 ·rw[hR,hC];exact h1
 ·rw[hR,hC];exact⟨byO,byO,byO,byO⟩
 ·rw[hR,hC,hw,<-Int.natCast_mul,Int.toNat_natCast];exact h2
structure Grd (H:Heap)(p q:Nat)(R C:Int)(g:G):Prop where
 fp:H.get p=some [.int .i64 R,.int .i64 C,.int .i64 g.next,.slice (some ⟨q,0,some 1⟩) g.cells.length g.cells.length]
 fq:H.get q=some (bN g.cells)
 ne:p≠q
theorem Grd.mono{H H':Heap}{p q:Nat}{R C:Int}{g:G}(h:Grd H p q R C g)(e:Ext H H'):Grd H' p q R C g:=⟨e.get h.fp,e.get h.fq,h.ne⟩
theorem Grd.setq{H:Heap}{p q:Nat}{R C:Int}{g g':G}(h:Grd H p q R C g)(hl:g'.cells.length=g.cells.length)(hn:g'.next=g.next):Grd (H.set q (some (bN g'.cells))) p q R C g':=
 ⟨by rw[aH (fun e=>h.ne e.symm),h.fp,hl,hn],by rw[aF (Heap.get_lt h.fq)],h.ne⟩
theorem Bn{p q:Nat}{R C:Int}{g g':G}{r c b:Int}(hd:Dim R C)(hf:Grd H p q R C g)(hlo:lo<=q)(hb:0<=b/\b<=7)(h:(aZ R C).asg g r c b=some g') :
  Ev cp lo 202 [.pointer (some ⟨p,0,none⟩),.int .i64 r,.int .i64 c,.int .i64 b] H (fun _ H'=>H'=H.set q (some (bN g'.cells))):=by
 obtain⟨b1,b2,b3,b4,b5,b6,b7,b8,rfl⟩:=mw h;obtain⟨r0,r1,c0,c1⟩:=hd;have fp:=hf.fp;have fq:=hf.fq;have m1:=eM (a:=R+4) (m:=8) byO byO;have m2:=eM (a:=C+4) (m:=8) byO byO;have hql:=Heap.get_lt fq;have hl:=gT g.cells;refine stG rfl rfl ?_;unfold JA;simp only[kB,aB];refine eI (fun S' H'=>H'=H/\S'=[.pointer (some ⟨p,0,none⟩),.int .i64 (if r<0 then r+R else r),.int .i64 (if r<0 then c+(4-(R+4).tmod 8) else c),.int .i64 b]) ?_ ?_
 ·refine cJ ?_ ?_<;>intro h
  ·have hr:r<0:=by simpa using h
   refine aU ?_;exact⟨by trivial,by simp(disch:=try exact dO)only[evB,xtr, *];simp only[show ∀x y:Int,x+4-y=x+(4-y) from fun x y=>by omega]⟩
  ·have hr:¬ r<0:=by simpa using h
   (try simp only[aB]);exact⟨by trivial,by simp only[if_neg hr]⟩
 rintro S' H' ⟨rfl,rfl⟩;(try simp only[aB]);generalize hr1:(if r<0 then r+R else r)=ra;generalize hc1:(if r<0 then c+(4-(R+4).tmod 8) else c)=ca;have bra:-4000<=ra/\ra<=4200:=by subst hr1;split<;>omega
 have bca:-4010<=ca/\ca<=4010:=by subst hc1;split<;>omega
 refine eI (fun S' H''=>H''=H'/\S'=[.pointer (some ⟨p,0,none⟩),.int .i64 (if ca<0 then ra+(4-(C+4).tmod 8) else ra),.int .i64 (if ca<0 then ca+C else ca),.int .i64 b]) ?_ ?_
 ·refine cJ ?_ ?_<;>intro h
  ·have hr:ca<0:=by simpa using h
   refine aU ?_;exact⟨by trivial,by simp(disch:=try exact dO)only[evB,xtr, *];simp only[show ∀x y:Int,x+4-y=x+(4-y) from fun x y=>by omega]⟩
  ·have hr:¬ ca<0:=by simpa using h
   (try simp only[aB]);exact⟨by trivial,by simp only[if_neg hr]⟩
 rintro S' H'' ⟨rfl,rfl⟩;have hi:(if ca<0 then ra+(4-(C+4).tmod 8) else ra)*C+(if ca<0 then ca+C else ca)=gB R C r c:=by subst hr1 hc1;rfl
 generalize hr2:(if ca<0 then ra+(4-(C+4).tmod 8) else ra)=rb at *;generalize hc2:(if ca<0 then ca+C else ca)=cb at *;have brb:-4010<=rb/\rb<=4210:=by subst hr2;split<;>omega
 have bcb:-4010<=cb/\cb<=4210:=by subst hc2;split<;>omega
 have hm:=dF (a:=rb) (b:=C) (A:=5000) (B:=200) byO byO byO c1 byO;generalize gB R C r c=i at *;refine aU ?_;refine dI (by simp(disch:=try exact dO)only[evB,xtr, *];rfl) ?_;rfl
theorem BH(l:List (Int×Int)):∀(k:Nat),k<l.length->(cN l)[2*k]?=some (.int .i64 (l.getD k (0,0)).1)/\(cN l)[2*k+1]?=some (.int .i64 (l.getD k (0,0)).2):=by
 induction l with
 | nil=>intro i h;simp at h
 | cons s l ih=>
  intro i h;have e:cN (s::l)=.int .i64 s.1::.int .i64 s.2::cN l:=rfl;cases i with
  | zero=>rw[e];exact⟨rfl,rfl⟩
  | succ i=>
   have:=ih i (by simpa using h);rw[e,show 2*(i+1)=2*i+1+1 by omega,show 2*i+1+1+1=(2*i+1)+1+1 by omega];simp only[List.getElem?_cons_succ];simpa using this
theorem CR{p q:Nat}{R C:Int}{g g':G}{l:List (Int×Int)}(hl8:l.length=8)(hd:Dim R C)(hf:Grd H p q R C g)(hlp:lo<=p)(hlo:lo<=q)(h:jC (aZ R C) g l=some g') :
  Ev cp lo 181 [.pointer (some ⟨p,0,none⟩),.agg (cN l).toArray] H (fun _ H'=>Grd H' p q R C g'/\Ch p q H H'):=by
 unfold jC at h;split at h
 ·rename_i g2 hg
  cases h;have hpl:=Heap.get_lt hf.fp;have hql:=Heap.get_lt hf.fq;have hpv:=sn l;rw[hl8]at hpv;refine stG rfl rfl ?_;unfold Iq;simp only[kB,aB];refine aU ?_;refine aY (fun m S H'=>∃(k:Nat) (g1:G),k<=8/\m=8-k/\S=[.pointer (some ⟨p,0,none⟩),.agg (cN l).toArray,.pointer (some ⟨H.length,0,none⟩),.int .i64 k]/\Grd H' p q R C g1/\Ch p q H H'/\H'.get H.length=some (cN l)/\goG (aZ R C) g1 (l.drop k) k=some g2) 8 ?_ ?_
  ·exact⟨0,g,by omega,by omega,rfl,hf.mono (Ext.app _ _),Ch.app _ _,by simp(disch:=try exact dO)only[evB,xtr, *],by simpa using hg⟩
  rintro m S H1 ⟨k,g1,hk,rfl,rfl,hf1,hch,hbox,hgo⟩;have hlen1:=hch.len;(try simp only[aB]);refine cJ ?_ ?_<;>intro h
  ·have hk8:k<8:=by simp at h;omega
   clear h;have hpg:=BH l k byO;have e1:(2*(k:Int)).toNat=2*k:=byO;have e2:(2*(k:Int)+1).toNat=2*k+1:=byO;rw[ke byO]at hgo;simp only[goG]at hgo;split at hgo
   ·rename_i g3 ha
    (try simp only[aB]);refine dH ?_;refine aA (Bn (q:=q) hd hf1 hlo byO ha) ?_;rintro v H2 rfl;refine aU ?_;simp only[ak];have hlq:=tU ha;refine⟨8-(k+1),byO,k+1,g3,byO,rfl,by simp only[ap₀,Int.natCast_one],hf1.setq hlq.1 hlq.2,hch.trans (Ch.setq _ _),by rw[aH byO];exact hbox,by simpa using hgo⟩
   ·simp at hgo
  ·have hk8:k=8:=by simp at h;omega
   subst hk8;rw[List.drop_of_length_le byO]at hgo;simp only[goG]at hgo;cases hgo;have fp:=hf1.fp;have hplen:=Heap.get_lt fp;have hnx:=pO hg;have hnb:=hnx.2.2 (by intro e;rw[e]at hl8;simp at hl8);rw[<-hnx.2.1]at hnb;clear hnx;refine aU ?_;refine dI (by simp(disch:=try exact dO)only[evB,xtr, *];rfl) ?_;refine⟨⟨by rw[aF hplen];rfl,by rw[aH hf1.ne];exact hf1.fq,hf1.ne⟩,hch.trans (Ch.setp _ _)⟩
 ·simp at h
theorem jY{p q:Nat}{R C:Int}{g g':G}{arr:Array Value}(l:List (Int×Int))(ha:arr=(cN l).toArray)(hl8:l.length=8)(hd:Dim R C)(hf:Grd H p q R C g)(hlp:lo<=p)(hlo:lo<=q)(h:jC (aZ R C) g l=some g') :
  Ev cp lo 181 [.pointer (some ⟨p,0,none⟩),.agg arr] H (fun _ H'=>Grd H' p q R C g'/\Ch p q H H'):=by
 subst ha;exact CR hl8 hd hf hlp hlo h
theorem pR{p q:Nat}{R C:Int}{g g':G}{r c:Int}(hb:inB r c=true)(hd:Dim R C)(hf:Grd H p q R C g)(hn:(g.cells.length:Int)=R*C)(hlp:lo<=p)(hlo:lo<=q)(h:j6 (aZ R C) g r c=some g') :
  Ev cp lo 137 [.pointer (some ⟨p,0,none⟩),.int .i64 r,.int .i64 c] H (fun _ H'=>Grd H' p q R C g'/\Ch p q H H'):=by
 have hd':=hd;obtain⟨r0,r1,c0,c1⟩:=hd';obtain⟨b1,b2,b3,b4⟩:=eS hb;have fp:=hf.fp;have fq:=hf.fq;refine stG rfl rfl ?_;unfold IS;simp only[kB,aB];by_cases h1:0<=r
 ·by_cases h2:r<R
  ·by_cases h3:0<=c
   ·by_cases h4:c<C
    ·have hi:=tv h1 h2 h3 h4
     have hm:=dF (a:=r) (b:=C) (A:=200) (B:=200) byO byO byO c1 byO;have hx:(r*C+c).toNat<g.cells.length:=byO;have n1:¬ r<0:=byO;have n2:¬ R<=r:=byO;have n3:¬ c<0:=byO;have n4:¬ C<=c:=byO;by_cases h5:g.cells.getD (r*C+c).toNat 0<0
     ·have hfr:(aZ R C).free g r c=true:=by simp only[aZ,h1,h2,h3,h4,h5,decide_true,Bool.and_self]
      simp only[j6,hfr,if_true]at h;have n5:¬ 0<=g.cells.getD (r*C+c).toNat 0:=byO;have hh:=h;clear h;refine cJ ?_ ?_<;>intro h
      ·cases h
      clear h;(try simp only[aB]);refine dH ?_;refine aA (jY (pl r c) (by simp only[cN,pl,List.flatMap_cons,List.flatMap_nil,am₀,List.nil_append]) rfl hd hf hlp hlo hh) ?_;rintro v H2 hh;(try simp only[aB]);refine dI (by simp(disch:=try exact dO)only[evB,xtr, *];rfl) ?_;exact hh
     ·have hfr:(aZ R C).free g r c=false:=by simp only[aZ,h1,h2,h3,h4,h5,decide_true,decide_false,Bool.and_self,Bool.and_false]
      have n5:0<=g.cells.getD (r*C+c).toNat 0:=byO;simp only[j6,hfr,ah₀,if_false]at h;cases h;refine cJ ?_ ?_<;>intro h
      ·(try simp only[aB])
       refine dU ?_;exact⟨hf,Ch.refl _⟩
      ·cases h
    ·have hfr:(aZ R C).free g r c=false:=by simp only[aZ,h4,decide_false,Bool.and_false,Bool.false_and]
     have n1:¬ r<0:=byO;have n2:¬ R<=r:=byO;have n3:¬ c<0:=byO;have n4:C<=c:=byO;simp only[j6,hfr,ah₀,if_false]at h;cases h;refine cJ ?_ ?_<;>intro h
     ·(try simp only[aB])
      refine dU ?_;exact⟨hf,Ch.refl _⟩
     ·cases h
   ·have hfr:(aZ R C).free g r c=false:=by simp only[aZ,h3,decide_false,Bool.and_false,Bool.false_and]
    have n1:¬ r<0:=byO;have n2:¬ R<=r:=byO;have n3:c<0:=byO;simp only[j6,hfr,ah₀,if_false]at h;cases h;refine cJ ?_ ?_<;>intro h
    ·(try simp only[aB])
     refine dU ?_;exact⟨hf,Ch.refl _⟩
    ·cases h
  ·have hfr:(aZ R C).free g r c=false:=by simp only[aZ,h2,decide_false,Bool.and_false,Bool.false_and]
   have n1:¬ r<0:=byO;have n2:R<=r:=byO;simp only[j6,hfr,ah₀,if_false]at h;cases h;refine cJ ?_ ?_<;>intro h
   ·(try simp only[aB])
    refine dU ?_;exact⟨hf,Ch.refl _⟩
   ·cases h
 ·have hfr:(aZ R C).free g r c=false:=by simp only[aZ,h1,decide_false,Bool.and_false,Bool.false_and]
  have n1:r<0:=byO;simp only[j6,hfr,ah₀,if_false]at h;cases h;refine cJ ?_ ?_<;>intro h
  ·(try simp only[aB])
   refine dU ?_;exact⟨hf,Ch.refl _⟩
  ·cases h
set_option maxHeartbeats 4000000 in
theorem A3{p q:Nat}{R C:Int}{g g':G}{r c:Int}(hd:Dim R C)(hf:Grd H p q R C g)(hlp:lo<=p)(hlo:lo<=q)(h:ep (aZ R C) R C g r c=some g') :
  Ev cp lo 136 [.pointer (some ⟨p,0,none⟩),.int .i64 r,.int .i64 c] H (fun _ H'=>Grd H' p q R C g'/\Ch p q H H'):=by
 have hd':=hd;obtain⟨r0,r1,c0,c1⟩:=hd';have fp:=hf.fp;unfold ep at h;split at h
 ·simp at h
 rename_i ga ha;split at h
 ·simp at h
 rename_i gb hb;split at h
 ·simp at h
 rename_i gc hc;have hlast:=h;clear h;refine stG rfl rfl ?_;unfold IQ;simp only[kB,aB];refine aU ?_;clear fp;refine eI (fun S' H'=>S'=[.pointer (some ⟨p,0,none⟩),.int .i64 r,.int .i64 c,.int .i64 R,.int .i64 C]/\Grd H' p q R C ga/\Ch p q H H') ?_ ?_
 ·refine cJ ?_ ?_<;>intro h
  ·have e:k1 R r c=true:=h
   rw[e]at ha;(try simp only[aB]);refine dH ?_;refine aA (jY (YtmnlgdpdgjbfgaaGreat.c1 R C) (by simp only[cN,YtmnlgdpdgjbfgaaGreat.c1,List.flatMap_cons,List.flatMap_nil,am₀,List.nil_append]) rfl hd hf hlp hlo ha) ?_;rintro v H2 hh;(try simp only[aB]);exact⟨by trivial,hh⟩
  ·have e:k1 R r c=false:=h
   rw[e]at ha;cases ha;(try simp only[aB]);exact⟨by trivial,hf,Ch.refl _⟩
 rintro S' H1 ⟨rfl,hf1,hc1⟩;(try simp only[aB]);refine eI (fun S' H'=>S'=[.pointer (some ⟨p,0,none⟩),.int .i64 r,.int .i64 c,.int .i64 R,.int .i64 C]/\Grd H' p q R C gb/\Ch p q H H') ?_ ?_
 ·refine cJ ?_ ?_<;>intro h
  ·have e:k2 R C r c=true:=h
   rw[e]at hb;(try simp only[aB]);refine dH ?_;refine aA (jY (YtmnlgdpdgjbfgaaGreat.c2 R C) (by simp only[cN,YtmnlgdpdgjbfgaaGreat.c2,List.flatMap_cons,List.flatMap_nil,am₀,List.nil_append]) rfl hd hf1 hlp hlo hb) ?_;rintro v H2 hh;(try simp only[aB]);exact⟨by trivial,hh.1,hc1.trans hh.2⟩
  ·have e:k2 R C r c=false:=h
   rw[e]at hb;cases hb;(try simp only[aB]);exact⟨by trivial,hf1,hc1⟩
 rintro S' H2 ⟨rfl,hf2,hc2⟩;(try simp only[aB]);refine eI (fun S' H'=>S'=[.pointer (some ⟨p,0,none⟩),.int .i64 r,.int .i64 c,.int .i64 R,.int .i64 C]/\Grd H' p q R C gc/\Ch p q H H') ?_ ?_
 ·refine cJ ?_ ?_<;>intro h
  ·have e:k3 R C r c=true:=h
   rw[e]at hc;(try simp only[aB]);refine dH ?_;refine aA (jY (YtmnlgdpdgjbfgaaGreat.c3 R C) (by simp only[cN,YtmnlgdpdgjbfgaaGreat.c3,List.flatMap_cons,List.flatMap_nil,am₀,List.nil_append]) rfl hd hf2 hlp hlo hc) ?_;rintro v H2 hh;(try simp only[aB]);exact⟨by trivial,hh.1,hc2.trans hh.2⟩
  ·have e:k3 R C r c=false:=h
   rw[e]at hc;cases hc;(try simp only[aB]);exact⟨by trivial,hf2,hc2⟩
 rintro S' H3 ⟨rfl,hf3,hc3⟩;(try simp only[aB]);refine cJ ?_ ?_<;>intro h
 ·have e:k4 R C r c=true:=h
  rw[e]at hlast;(try simp only[aB]);refine dH ?_;refine aA (jY (YtmnlgdpdgjbfgaaGreat.c4 R C) (by simp only[cN,YtmnlgdpdgjbfgaaGreat.c4,List.flatMap_cons,List.flatMap_nil,am₀,List.nil_append]) rfl hd hf3 hlp hlo hlast) ?_;rintro v H2 hh;(try simp only[aB]);refine dI (by simp(disch:=try exact dO)only[evB,xtr, *];rfl) ?_;exact⟨hh.1,hc3.trans hh.2⟩
 ·have e:k4 R C r c=false:=h
  rw[e]at hlast;cases hlast;(try simp only[aB]);refine dI (by simp(disch:=try exact dO)only[evB,xtr, *];rfl) ?_;exact⟨hf3,hc3⟩
def vh(q:Nat)(i:Nat):Value:=if i=0 then .slice none 0 0 else .slice (some ⟨q,0,some 1⟩) i i
theorem AF{σ:Type}(O:Ops σ)(C:Int)(k:Nat)(s:σ)(r c:Int):upG O C (k+1) s r c=(if inB r c=true then match j6 O s r c with
  | none=>none
  | some s=>if 0<=r-2/\c+2<C then upG O C k s (r-2) (c+2) else some (s,r-2,c+2)
  else none):=by simp only[upG,kM];rfl
theorem sJ{σ:Type}(O:Ops σ)(R:Int)(k:Nat)(s:σ)(r c:Int):gQ O R (k+1) s r c=(if inB r c=true then match j6 O s r c with
  | none=>none
  | some s=>if r+2<R/\0<=c-2 then gQ O R k s (r+2) (c-2) else some (s,r+2,c-2)
  else none):=by simp only[gQ,kM];rfl
set_option maxHeartbeats 4000000 in
theorem Gl{R C:Int}{gf:G}(hd:Dim R C)(hlo:lo<=H.length)(h:wL R C=some gf) :
  Ev cp lo 83 [.int .i64 R,.int .i64 C] H (fun v H'=>Ext H H'/\∃q,H.length<=q/\v=.slice (some ⟨q,0,some 1⟩) gf.cells.length gf.cells.length/\H'.get q=some (bN gf.cells)):=by
 have hd':=hd;obtain⟨r0,r1,c0,c1⟩:=hd';have hm:=dF (a:=R) (b:=C) (A:=200) (B:=200) byO byO byO c1 byO;have hm1:6*C<=R*C:=Int.mul_le_mul_of_nonneg_right r0 byO;refine stG rfl rfl ?_;unfold N0;simp only[kB,aB];refine aU ?_;refine eo (fun S H'=>∃(q:Nat) (x4 x8 x9 x10 x11:Value),S=[.int .i64 R,.int .i64 C,.slice none 0 0,.pointer (some ⟨H.length,0,none⟩),x4,undef,undef,.pointer (some ⟨H.length,0,none⟩),x8,x9,x10,x11]/\Ext H H'/\H.length<q/\H'.get H.length=some [.int .i64 R,.int .i64 C,.int .i64 0,.slice (some ⟨q,0,some 1⟩) (R*C).toNat (R*C).toNat]/\H'.get q=some (bN (List.replicate (R*C).toNat (-1)))) ?_ ?_
 ·refine aY (fun m S H'=>∃(i q:Nat) (x8 x9 x10 x11:Value),(i:Int)<=R*C/\m=(R*C).toNat-i/\S=[.int .i64 R,.int .i64 C,.slice none 0 0,.pointer (some ⟨H.length,0,none⟩),.int .i64 i,undef,undef,.pointer (some ⟨H.length,0,none⟩),x8,x9,x10,x11]/\Ext H H'/\H.length<H'.length/\H'.get H.length=some [.int .i64 R,.int .i64 C,.int .i64 0,vh q i]/\(i≠0->H.length<q/\H'.get q=some (bN (List.replicate i (-1))))) (R*C).toNat ?_ ?_
  ·exact⟨0,0,_,_,_,_,byO,byO,rfl,Ext.app _ _,by simp,by rw[aK];rfl,fun h=>absurd rfl h⟩
  rintro m S H' ⟨i,q,x8,x9,x10,x11,hi,rfl,rfl,hx,hl,g0,gq⟩;(try simp only[aB]);refine cJ ?_ ?_<;>intro h
  ·have hi2:(i:Int)<R*C:=by simpa using h
   clear h;by_cases hi0:i=0
   ·subst hi0
    simp only[vh,if_true]at g0;clear gq;refine aU ?_;simp only[ak];refine⟨(R*C).toNat-1,byO,1,H'.length+1,_,_,_,_,byO,rfl,rfl,(hx.set (Nat.le_refl _)).trans (Ext.app _ _),by simp;omega,?_,fun _=>⟨byO,?_⟩⟩
    ·rw[dN (by simp;omega),aF hl];rfl
    ·have e:∀X:Heap,X.length=H'.length->∀a b:List Value,Heap.get (X++[some a,some b]) (H'.length+1)=some b:=fun X hX a b=>by rw[<-hX,bI];rfl
     rw[e _ (by simp)];rfl
   ·obtain⟨hq,gq⟩:=gq hi0
    simp only[vh,if_neg hi0]at g0;have hql:=Heap.get_lt gq;refine aU ?_;simp only[ak];refine⟨(R*C).toNat-(i+1),byO,i+1,H'.length+1,_,_,_,_,byO,rfl,by simp only[ap₀,Int.natCast_one];rfl,?_,by simp;omega,?_,fun _=>⟨byO,?_⟩⟩
    ·exact((hx.set byO).set byO).trans (Ext.app _ _)
    ·rw[dN (by simp;omega),aF (by simp;omega)];simp[vh]
    ·have e:∀X:Heap,X.length=H'.length->∀a b:List Value,Heap.get (X++[some a,some b]) (H'.length+1)=some b:=fun X hX a b=>by rw[<-hX,bI];rfl
     rw[e _ (by simp),List.take_of_length_le (by simp),List.replicate_succ',kj];rfl
  ·have hi2:(i:Int)=R*C:=by simp at h;omega
   clear h;have hi3:i=(R*C).toNat:=byO;obtain⟨hq,gq⟩:=gq byO;simp only[vh,if_neg (show ¬ i=0 by omega)]at g0;rw[hi3]at g0 gq;(try simp only[aB]);exact⟨q,_,_,_,_,_,rfl,hx,hq,g0,gq⟩
 rintro S H1 ⟨q,x4,x8,x9,x10,x11,rfl,hx1,hq,g0,gq⟩;have hf:Grd H1 H.length q R C ⟨0,List.replicate (R*C).toNat (-1)⟩:=⟨by rw[g0];simp,gq,byO⟩;clear g0 gq;unfold wL at h;generalize hg0:(⟨0,List.replicate (R*C).toNat (-1)⟩:G)=gi at *;have hlen0:(gi.cells.length:Int)=R*C:=by rw[<-hg0];simp;omega
 clear hg0;have hHp:H.length<=H.length:=Nat.le_refl _;generalize hx7:Value.pointer (some ⟨H.length,0,none⟩)=x7';generalize hp:H.length=p at hf hlo hq hx7 hHp ⊢;subst hx7;have hlp:lo<=p:=hlo;have hlq:lo<=q:=byO;have hch1:∀i,i<p->H1.get i=H.get i:=fun i hi=>hx1.2 i byO;have hl1:p<=H1.length:=by have:=hx1.1;omega
 refine aU ?_;refine aY (fun m S H'=>∃(r c:Int) (g:G) (x4 x7 x8 x9 x10 x11:Value),S=[.int .i64 R,.int .i64 C,.slice none 0 0,.pointer (some ⟨p,0,none⟩),x4,.int .i64 r,.int .i64 c,x7,x8,x9,x10,x11]/\Grd H' p q R C g/\(g.cells.length:Int)=R*C/\(∀i,i<p->H'.get i=H.get i)/\p<=H'.length /\
  (((r<R\/c<C)/\∃k,m=k+1/\oG (aZ R C) R C k g r c=some gf)\/(¬ (r<R\/c<C)/\m=0/\g=gf))) 201 ?_ ?_
 ·exact⟨4,0,gi,_,_,_,_,_,_,rfl,hf,hlen0,hch1,hl1,.inl ⟨.inl byO,200,rfl,h⟩⟩
 rintro m S H3 ⟨r,c,g,x4,x7,x8,x9,x10,x11,rfl,hf3,hlen3,hch3,hl3,hcase⟩;(try simp only[aB]);refine cJ ?_ ?_<;>intro h
 ·have hcond:r<R\/c<C:=by simpa using h
  clear h;rcases hcase with ⟨_,k,rfl,hout⟩|⟨e,_⟩;rotate_left
  ·exact absurd hcond e
  cases k with
  | zero=>simp[oG]at hout
  | succ k=>
  simp only[oG,kM]at hout;split at hout;rotate_left
  ·simp at hout
  rename_i hinB;have hb:=eS hinB;split at hout
  ·simp at hout
  rename_i g4 hg4;split at hout
  ·simp at hout
  rename_i g5 ra ca hg5;split at hout
  ·simp at hout
  rename_i g6 rb cb hg6;have bl5:=yT hg5;have bl6:=qE hg6;have bl4:=o8 hg4;(try simp only[aB]);refine dH ?_;refine aA (A3 hd hf3 hlp hlq hg4) ?_;rintro v H4 ⟨hf4,hc4⟩;have hlen4:(g4.cells.length:Int)=R*C:=by rw[bl4];exact hlen3
  have hch4:∀i,i<p->H4.get i=H.get i:=fun i hi=>by rw[hc4.get i byO byO byO];exact hch3 i hi
  have hl4:p<=H4.length:=Nat.le_trans hl3 hc4.len;rw[AF _ _ 199,if_pos hinB]at hg5;split at hg5
  ·simp at hg5
  rename_i g7 hg7;have bl7:=gO hg7;(try simp only[aB]);refine dH ?_;refine aA (pR hinB hd hf4 hlen4 hlp hlq hg7) ?_;rintro v H5 ⟨hf5,hc5⟩;have hlen5:(g7.cells.length:Int)=R*C:=by rw[bl7];exact hlen4
  have hch5:∀i,i<p->H5.get i=H.get i:=fun i hi=>by rw[hc5.get i byO byO byO];exact hch4 i hi
  have hl5:p<=H5.length:=Nat.le_trans hl4 hc5.len;refine aU ?_;refine eo (fun S H'=>∃x4 x7 x8 x9 x10 x11:Value,S=[.int .i64 R,.int .i64 C,.slice none 0 0,.pointer (some ⟨p,0,none⟩),x4,.int .i64 ra,.int .i64 ca,x7,x8,x9,x10,x11]/\Grd H' p q R C g5/\(∀i,i<p->H'.get i=H.get i)/\p<=H'.length) ?_ ?_
  ·refine aY (fun m S H'=>∃(r c:Int) (g:G) (x4 x7 x8 x9 x10 x11:Value),S=[.int .i64 R,.int .i64 C,.slice none 0 0,.pointer (some ⟨p,0,none⟩),x4,.int .i64 r,.int .i64 c,x7,x8,x9,x10,x11]/\-4002<=r/\r<=4002/\-4002<=c/\c<=4002/\Grd H' p q R C g/\(g.cells.length:Int)=R*C/\(∀i,i<p->H'.get i=H.get i)/\p<=H'.length /\
    (((0<=r/\c<C)/\∃k,k<m/\upG (aZ R C) C k g r c=some (g5,ra,ca))\/(¬ (0<=r/\c<C)/\g=g5/\r=ra/\c=ca))) 201 ?_ ?_
   ·refine⟨r-2,c+2,g7,_,_,_,_,_,_,rfl,byO,byO,byO,byO,hf5,hlen5,hch5,hl5,?_⟩
    split at hg5
    ·rename_i hc2;exact .inl ⟨hc2,199,byO,hg5⟩
    ·rename_i hc2
     simp only[ab₀,ad₀]at hg5;exact .inr ⟨hc2,hg5.1,hg5.2.1,hg5.2.2⟩
   rintro m S H6 ⟨r,c,g,x4,x7,x8,x9,x10,x11,rfl,br1,br2,bc1,bc2,hf6,hlen6,hch6,hl6,hcase⟩;(try simp only[aB]);refine cJ ?_ ?_<;>intro h
   ·have hcond:0<=r/\c<C:=by simpa using h
    clear h;rcases hcase with ⟨_,k,hkm,hup⟩|⟨e,_⟩;rotate_left
    ·exact absurd hcond e
    cases k with
    | zero=>simp[upG]at hup
    | succ k=>
    rw[AF]at hup;split at hup;rotate_left
    ·simp at hup
    rename_i hinB;have hb:=eS hinB;split at hup
    ·simp at hup
    rename_i g7 hg7;have hlen7:(g7.cells.length:Int)=R*C:=by rw[gO hg7];exact hlen6
    (try simp only[aB]);refine dH ?_;refine aA (pR hinB hd hf6 hlen6 hlp hlq hg7) ?_;rintro v H7 ⟨hf7,hc7⟩;have hch7:∀i,i<p->H7.get i=H.get i:=fun i hi=>by rw[hc7.get i byO byO byO];exact hch6 i hi
    have hl7:p<=H7.length:=Nat.le_trans hl6 hc7.len;refine aU ?_;simp only[ak];split at hup
    ·rename_i hc2
     exact⟨m-1,byO,r-2,c+2,g7,_,_,_,_,_,_,rfl,byO,byO,byO,byO,hf7,hlen7,hch7,hl7,.inl ⟨hc2,k,byO,hup⟩⟩
    ·rename_i hc2
     simp only[ab₀,ad₀]at hup;exact⟨m-1,byO,r-2,c+2,g7,_,_,_,_,_,_,rfl,byO,byO,byO,byO,hf7,hlen7,hch7,hl7,.inr ⟨hc2,hup.1,hup.2.1,hup.2.2⟩⟩
   ·have hcond:¬ (0<=r/\c<C):=by simpa using h
    clear h;rcases hcase with ⟨e,_⟩|⟨_,rfl,rfl,rfl⟩
    ·exact absurd e hcond
    (try simp only[aB]);exact⟨_,_,_,_,_,_,rfl,hf6,hch6,hl6⟩
  rintro S H6 ⟨y4,y7,y8,y9,y10,y11,rfl,hf6,hch6,hl6⟩;have hlen6:(g5.cells.length:Int)=R*C:=by rw[bl5.1];exact hlen4
  rw[sJ _ _ 199]at hg6;split at hg6;rotate_left
  ·simp at hg6
  rename_i hinB2;have hb2:=eS hinB2;split at hg6
  ·simp at hg6
  rename_i g8 hg8;have bl8:=gO hg8;refine aU ?_;refine dH ?_;refine aA (pR hinB2 hd hf6 hlen6 hlp hlq hg8) ?_;rintro v H8 ⟨hf8,hc8⟩;have hlen8:(g8.cells.length:Int)=R*C:=by rw[bl8];exact hlen6
  have hch8:∀i,i<p->H8.get i=H.get i:=fun i hi=>by rw[hc8.get i byO byO byO];exact hch6 i hi
  have hl8:p<=H8.length:=Nat.le_trans hl6 hc8.len;refine aU ?_;refine eo (fun S H'=>∃x4 x7 x8 x9 x10 x11:Value,S=[.int .i64 R,.int .i64 C,.slice none 0 0,.pointer (some ⟨p,0,none⟩),x4,.int .i64 rb,.int .i64 cb,x7,x8,x9,x10,x11]/\Grd H' p q R C g6/\(∀i,i<p->H'.get i=H.get i)/\p<=H'.length) ?_ ?_
  ·refine aY (fun m S H'=>∃(r c:Int) (g:G) (x4 x7 x8 x9 x10 x11:Value),S=[.int .i64 R,.int .i64 C,.slice none 0 0,.pointer (some ⟨p,0,none⟩),x4,.int .i64 r,.int .i64 c,x7,x8,x9,x10,x11]/\-4002<=r/\r<=4002/\-4002<=c/\c<=4002/\Grd H' p q R C g/\(g.cells.length:Int)=R*C/\(∀i,i<p->H'.get i=H.get i)/\p<=H'.length /\
    (((r<R/\0<=c)/\∃k,k<m/\gQ (aZ R C) R k g r c=some (g6,rb,cb))\/(¬ (r<R/\0<=c)/\g=g6/\r=rb/\c=cb))) 201 ?_ ?_
   ·refine⟨ra+1+2,ca+3-2,g8,_,_,_,_,_,_,rfl,byO,byO,byO,byO,hf8,hlen8,hch8,hl8,?_⟩
    split at hg6
    ·rename_i hc2;exact .inl ⟨hc2,199,byO,hg6⟩
    ·rename_i hc2
     simp only[ab₀,ad₀]at hg6;exact .inr ⟨hc2,hg6.1,hg6.2.1,hg6.2.2⟩
   rintro m S H6 ⟨r,c,g,x4,x7,x8,x9,x10,x11,rfl,br1,br2,bc1,bc2,hf6,hlen6,hch6,hl6,hcase⟩;(try simp only[aB]);refine cJ ?_ ?_<;>intro h
   ·have hcond:r<R/\0<=c:=by simpa using h
    clear h;rcases hcase with ⟨_,k,hkm,hup⟩|⟨e,_⟩;rotate_left
    ·exact absurd hcond e
    cases k with
    | zero=>simp[gQ]at hup
    | succ k=>
    rw[sJ]at hup;split at hup;rotate_left
    ·simp at hup
    rename_i hinB;have hb:=eS hinB;split at hup
    ·simp at hup
    rename_i g7 hg7;have hlen7:(g7.cells.length:Int)=R*C:=by rw[gO hg7];exact hlen6
    (try simp only[aB]);refine dH ?_;refine aA (pR hinB hd hf6 hlen6 hlp hlq hg7) ?_;rintro v H7 ⟨hf7,hc7⟩;have hch7:∀i,i<p->H7.get i=H.get i:=fun i hi=>by rw[hc7.get i byO byO byO];exact hch6 i hi
    have hl7:p<=H7.length:=Nat.le_trans hl6 hc7.len;refine aU ?_;simp only[ak];split at hup
    ·rename_i hc2
     exact⟨m-1,byO,r+2,c-2,g7,_,_,_,_,_,_,rfl,byO,byO,byO,byO,hf7,hlen7,hch7,hl7,.inl ⟨hc2,k,byO,hup⟩⟩
    ·rename_i hc2
     simp only[ab₀,ad₀]at hup;exact⟨m-1,byO,r+2,c-2,g7,_,_,_,_,_,_,rfl,byO,byO,byO,byO,hf7,hlen7,hch7,hl7,.inr ⟨hc2,hup.1,hup.2.1,hup.2.2⟩⟩
   ·have hcond:¬ (r<R/\0<=c):=by simpa using h
    clear h;rcases hcase with ⟨e,_⟩|⟨_,rfl,rfl,rfl⟩
    ·exact absurd e hcond
    (try simp only[aB]);exact⟨_,_,_,_,_,_,rfl,hf6,hch6,hl6⟩
  rintro S H9 ⟨z4,z7,z8,z9,z10,z11,rfl,hf9,hch9,hl9⟩;have hlen9:(g6.cells.length:Int)=R*C:=by rw[bl6.1];exact hlen6
  refine aU ?_;simp only[ak];split at hout
  ·rename_i hc2
   exact⟨k+1,byO,rb+3,cb+1,g6,_,_,_,_,_,_,rfl,hf9,hlen9,hch9,hl9,.inl ⟨hc2,k,rfl,hout⟩⟩
  ·rename_i hc2
   cases hout;exact⟨0,byO,rb+3,cb+1,gf,_,_,_,_,_,_,rfl,hf9,hlen9,hch9,hl9,.inr ⟨hc2,rfl,rfl⟩⟩
 ·have hcond:¬ (r<R\/c<C):=by simpa using h
  clear h;rcases hcase with ⟨e,_⟩|⟨_,_,rfl⟩
  ·exact absurd e hcond
  have fp:=hf3.fp;refine aU ?_;refine dU ?_;exact⟨⟨byO,fun i hi=>hch3 i byO⟩,q,byO,rfl,hf3.fq⟩
theorem Ro:∃gf,SizeOrd (bZ 0) gf:=aV (an byO) (R:=8) (C:=8) (w:=8) rfl rfl rfl byO RV
theorem Rp:∃gf,SizeOrd (bZ 1) gf:=aV (an byO) (R:=10) (C:=10) (w:=12) rfl rfl rfl byO La
theorem Rq:∃gf,SizeOrd (bZ 2) gf:=aV (an byO) (R:=12) (C:=12) (w:=18) rfl rfl rfl byO Ld
theorem Rr:∃gf,SizeOrd (bZ 3) gf:=aV (an byO) (R:=14) (C:=14) (w:=24) rfl rfl rfl byO Le
theorem Rs:∃gf,SizeOrd (bZ 4) gf:=aV (an byO) (R:=16) (C:=16) (w:=32) rfl rfl rfl byO Lh
theorem Rt:∃gf,SizeOrd (bZ 5) gf:=aV (an byO) (R:=18) (C:=18) (w:=40) rfl rfl rfl byO Li
theorem Ru:∃gf,SizeOrd (bZ 6) gf:=aV (an byO) (R:=20) (C:=20) (w:=50) rfl rfl rfl byO Lj
theorem Rv:∃gf,SizeOrd (bZ 7) gf:=aV (an byO) (R:=22) (C:=22) (w:=60) rfl rfl rfl byO Lk
theorem Rw:∃gf,SizeOrd (bZ 8) gf:=aV (an byO) (R:=24) (C:=24) (w:=72) rfl rfl rfl byO Ll
theorem Rx:∃gf,SizeOrd (bZ 9) gf:=aV (an byO) (R:=28) (C:=28) (w:=98) rfl rfl rfl byO Lm
theorem PR:∃gf,SizeOrd (bZ 10) gf:=aV (an byO) (R:=32) (C:=32) (w:=128) rfl rfl rfl byO Ln
theorem PS:∃gf,SizeOrd (bZ 11) gf:=aV (an byO) (R:=36) (C:=36) (w:=162) rfl rfl rfl byO Lo
theorem PT:∃gf,SizeOrd (bZ 12) gf:=aV (an byO) (R:=40) (C:=40) (w:=200) rfl rfl rfl byO Lp
theorem PU:∃gf,SizeOrd (bZ 13) gf:=aV (an byO) (R:=44) (C:=44) (w:=242) rfl rfl rfl byO Lq
theorem PV:∃gf,SizeOrd (bZ 14) gf:=aV (an byO) (R:=48) (C:=48) (w:=288) rfl rfl rfl byO Lr
theorem PW:∃gf,SizeOrd (bZ 15) gf:=aV (an byO) (R:=56) (C:=56) (w:=392) rfl rfl rfl byO Ls
theorem PX:∃gf,SizeOrd (bZ 16) gf:=aV (an byO) (R:=64) (C:=64) (w:=512) rfl rfl rfl byO Lt
theorem PY:∃gf,SizeOrd (bZ 17) gf:=aV (an byO) (R:=72) (C:=72) (w:=648) rfl rfl rfl byO Lu
theorem PZ:∃gf,SizeOrd (bZ 18) gf:=aV (an byO) (R:=80) (C:=80) (w:=800) rfl rfl rfl byO Lv
theorem P0:∃gf,SizeOrd (bZ 19) gf:=aV (an byO) (R:=88) (C:=88) (w:=968) rfl rfl rfl byO Lw
theorem P1:∃gf,SizeOrd (bZ 20) gf:=aV (an byO) (R:=96) (C:=96) (w:=1152) rfl rfl rfl byO Lx
theorem P2:∃gf,SizeOrd (bZ 21) gf:=aV (an byO) (R:=108) (C:=108) (w:=1458) rfl rfl rfl byO Dl
theorem P3:∃gf,SizeOrd (bZ 22) gf:=aV (an byO) (R:=120) (C:=120) (w:=1800) rfl rfl rfl byO Dm
theorem P4:∃gf,SizeOrd (bZ 23) gf:=aV (an byO) (R:=132) (C:=132) (w:=2178) rfl rfl rfl byO Dn
theorem P5:∃gf,SizeOrd (bZ 24) gf:=aV (an byO) (R:=6) (C:=16) (w:=12) rfl rfl rfl byO OZ
theorem P6:∃gf,SizeOrd (bZ 25) gf:=aV (an byO) (R:=6) (C:=28) (w:=21) rfl rfl rfl byO O0
theorem P7:∃gf,SizeOrd (bZ 26) gf:=aV (an byO) (R:=10) (C:=24) (w:=30) rfl rfl rfl byO Lb
theorem P8:∃gf,SizeOrd (bZ 27) gf:=aV (an byO) (R:=10) (C:=32) (w:=40) rfl rfl rfl byO Lc
theorem P9:∃gf,SizeOrd (bZ 28) gf:=aV (an byO) (R:=14) (C:=32) (w:=56) rfl rfl rfl byO Lf
theorem Pa:∃gf,SizeOrd (bZ 29) gf:=aV (an byO) (R:=14) (C:=44) (w:=77) rfl rfl rfl byO Lg
theorem yS:∀s ∈ szs,∃gf,SizeOrd s gf:=by
 intro s hs;have key:∀i,i<30->∃gf,SizeOrd (bZ i) gf:=by
  intro i hi
  match i,hi with
  | 0,_=>exact Ro
  | 1,_=>exact Rp
  | 2,_=>exact Rq
  | 3,_=>exact Rr
  | 4,_=>exact Rs
  | 5,_=>exact Rt
  | 6,_=>exact Ru
  | 7,_=>exact Rv
  | 8,_=>exact Rw
  | 9,_=>exact Rx
  | 10,_=>exact PR
  | 11,_=>exact PS
  | 12,_=>exact PT
  | 13,_=>exact PU
  | 14,_=>exact PV
  | 15,_=>exact PW
  | 16,_=>exact PX
  | 17,_=>exact PY
  | 18,_=>exact PZ
  | 19,_=>exact P0
  | 20,_=>exact P1
  | 21,_=>exact P2
  | 22,_=>exact P3
  | 23,_=>exact P4
  | 24,_=>exact P5
  | 25,_=>exact P6
  | 26,_=>exact P7
  | 27,_=>exact P8
  | 28,_=>exact P9
  | 29,_=>exact Pa
  | n+30,h=>omega
 obtain⟨i,hi,rfl⟩:=List.getElem_of_mem hs;have e:szs[i]=bZ i:=by
  unfold bZ;rw[au₀,bb₀ hi];rfl
 rw[e];exact key i (by rw[gP]at hi;exact hi)
theorem map_some{R C:Int}(h:OI R C):Dim R C/\∃gf,wL R C=some gf:=by
 obtain⟨s,hs,rfl,rfl⟩:=h;obtain⟨gf,h⟩:=yS s hs;exact⟨h.dim,gf,h.ord⟩
theorem si{s:Sz}(hs:SzOK s):Ev cp lo 82 [s.val] H (fun v H'=>Ext H H'/\v=.tuple #[.int .i64 (gh s),.int .i64 (ez s)]):=by
 have hb:=kp hs;obtain⟨r0,r1,c0,c1,rr0,rr1,rc0,rc1,_⟩:=hs;unfold gh ez at hb;refine stG rfl rfl ?_;unfold NZ;simp only[kB,aB];refine aU ?_;refine dU ?_;exact⟨Ext.app _ _,rfl⟩
end Go.Proofs.YtmnlgdpdgjbfgaaGreat
