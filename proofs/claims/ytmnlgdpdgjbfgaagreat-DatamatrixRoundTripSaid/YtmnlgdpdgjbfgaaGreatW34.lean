/- Lemmas. -/
import Derived.Test.YtmnlgdpdgjbfgaaGreatW9
import Derived.Test.YtmnlgdpdgjbfgaaGreatW29
set_option linter.all false
namespace Go.Proofs.YtmnlgdpdgjbfgaaGreat
open Go.Abs
variable{H:Heap}{lo:Nat}
theorem eK{a b A B:Int}(h1:-A<=a)(h2:a<=A)(h3:0<=b)(h4:b<=B)(hA:0<=A):-(A*B)<=a*b/\a*b<=A*B:=by
 have e1:a*b<=A*b:=Int.mul_le_mul_of_nonneg_right h2 h3;have e2:A*b<=A*B:=Int.mul_le_mul_of_nonneg_left h4 hA;have e3:-A*b<=a*b:=Int.mul_le_mul_of_nonneg_right h1 h3;rw[Int.neg_mul]at e3;omega
structure Fil (H:Heap)(p q:Nat)(R C:Int)(g:G):Prop where
 fp:H.get p=some [.int .i64 R,.int .i64 C,.slice (some ⟨q,0,none⟩) g.cells.length g.cells.length,.int .i64 g.next]
 fq:H.get q=some (ak g.cells)
 ne:p≠q
structure Dim (R C:Int):Prop where
 r0:6<=R
 r1:R<=200
 c0:6<=C
 c1:C<=200
theorem qj{R C:Int}{g g':G}{r c b:Int}(h:(bm R C).asg g r c b=some g'):-4000<=r/\r<=4000/\-4000<=c/\c<=4000/\0<=ig R C r c/\ig R C r c<g.cells.length/\0<=g.next/\g.next<=100000/\g'=⟨g.next,g.cells.set (ig R C r c).toNat (8*g.next+b)⟩:=by
 simp only[bm]at h;split at h
 ·rename_i hc
  simp only[OQ,inB,ac₀,af₀]at hc;simp at h;refine⟨hc.1.1.1.1.1.1,hc.1.1.1.1.1.2,hc.1.1.1.1.2,hc.1.1.1.2,hc.1.1.2,hc.1.2,hc.2.1,hc.2.2,h.symm⟩
 ·simp at h
theorem iM{a:Int}{m:Int}(h:0<=a)(hm:0<m):0<=a.tmod m/\a.tmod m<m:=⟨Int.tmod_nonneg m h,Int.tmod_lt_of_pos a hm⟩
open XJWfit
theorem D5{p q:Nat}{R C:Int}{g g':G}{r c b:Int}(hd:Dim R C)(hf:Fil H p q R C g)(hlo:lo<=q)(hb:0<=b/\b<=7)(h:(bm R C).asg g r c b=some g') :
  Ev cp lo 132 [.pointer (some ⟨p,0,none⟩),.int .i64 r,.int .i64 c,.int .i64 b] H (fun _ H'=>H'=H.set q (some (ak g'.cells))):=by
 obtain⟨b1,b2,b3,b4,b5,b6,b7,b8,rfl⟩:=qj h;obtain⟨r0,r1,c0,c1⟩:=hd;have fp:=hf.fp;have fq:=hf.fq;have m1:=iM (a:=R+4) (m:=8) byO byO;have m2:=iM (a:=C+4) (m:=8) byO byO;have hql:=Heap.get_lt fq;have hl:=jh g.cells;refine stG rfl rfl ?_;unfold Kg;simp only[kB,aC];refine iV (fun S' H'=>H'=H/\S'=[.pointer (some ⟨p,0,none⟩),.int .i64 (if r<0 then r+R else r),.int .i64 (if r<0 then c+(4-(R+4).tmod 8) else c),.int .i64 b]) ?_ ?_
 ·refine dF ?_ ?_<;>intro h
  ·have hr:r<0:=by simpa using h
   refine aX ?_;exact⟨by trivial,by simp(disch:=try exact dO)only[evB,xtr, *]⟩
  ·have hr:¬ r<0:=by simpa using h
   (try simp only[aC]);exact⟨by trivial,by simp only[if_neg hr]⟩
 rintro S' H' ⟨rfl,rfl⟩;(try simp only[aC]);generalize hr1:(if r<0 then r+R else r)=ra;generalize hc1:(if r<0 then c+(4-(R+4).tmod 8) else c)=ca;have bra:-4000<=ra/\ra<=4200:=by subst hr1;split<;>omega
 have bca:-4010<=ca/\ca<=4010:=by subst hc1;split<;>omega
 refine iV (fun S' H''=>H''=H'/\S'=[.pointer (some ⟨p,0,none⟩),.int .i64 (if ca<0 then ra+(4-(C+4).tmod 8) else ra),.int .i64 (if ca<0 then ca+C else ca),.int .i64 b]) ?_ ?_
 ·refine dF ?_ ?_<;>intro h
  ·have hr:ca<0:=by simpa using h
   refine aX ?_;exact⟨by trivial,by simp(disch:=try exact dO)only[evB,xtr, *]⟩
  ·have hr:¬ ca<0:=by simpa using h
   (try simp only[aC]);exact⟨by trivial,by simp only[if_neg hr]⟩
 rintro S' H'' ⟨rfl,rfl⟩;have hi:(if ca<0 then ra+(4-(C+4).tmod 8) else ra)*C+(if ca<0 then ca+C else ca)=ig R C r c:=by subst hr1 hc1;rfl
 generalize hr2:(if ca<0 then ra+(4-(C+4).tmod 8) else ra)=rb at *;generalize hc2:(if ca<0 then ca+C else ca)=cb at *;have brb:-4010<=rb/\rb<=4210:=by subst hr2;split<;>omega
 have bcb:-4010<=cb/\cb<=4210:=by subst hc2;split<;>omega
 have hm:=eK (a:=rb) (b:=C) (A:=5000) (B:=200) byO byO byO c1 byO;generalize ig R C r c=i at *;refine aX ?_;refine fS (by simp(disch:=try exact dO)only[evB,xtr, *];rfl) ?_;rfl
theorem Er{p q:Nat}{R C:Int}{g:G}{r c:Int}(hd:Dim R C)(hf:Fil H p q R C g)(hn:(g.cells.length:Int)=R*C) :
  Ev cp lo 134 [.pointer (some ⟨p,0,none⟩),.int .i64 r,.int .i64 c] H (fun v H'=>H'=H/\v=.bool ((bm R C).free g r c)):=by
 obtain⟨r0,r1,c0,c1⟩:=hd;have fp:=hf.fp;have fq:=hf.fq;refine stG rfl rfl ?_;unfold Ki;simp only[kB,aC];refine aX ?_;simp only[bm];by_cases h1:0<=r
 ·by_cases h2:r<R
  ·by_cases h3:0<=c
   ·by_cases h4:c<C
    ·have hi:=zb h1 h2 h3 h4
     have hm:=eK (a:=r) (b:=C) (A:=200) (B:=200) byO byO byO c1 byO;have hx:(r*C+c).toNat<g.cells.length:=byO;refine aX ?_;refine dY ?_;refine⟨rfl,?_⟩;simp[aM,h1,h2,h3,h4]
    ·refine aX ?_
     refine dY ?_;refine⟨rfl,?_⟩;simp[aM,h1,h2,h3,h4]
   ·refine aX ?_
    refine dY ?_;refine⟨rfl,?_⟩;simp[aM,h1,h2,h3]
  ·refine aX ?_
   refine dY ?_;refine⟨rfl,?_⟩;simp[aM,h1,h2]
 ·refine aX ?_
  refine dY ?_;refine⟨rfl,?_⟩;simp[aM,h1]
structure Ch (p q:Nat)(H H':Heap):Prop where
 len:H.length<=H'.length
 get:∀i,i<H.length->i≠p->i≠q->H'.get i=H.get i
theorem Ch.refl{p q:Nat}(H:Heap):Ch p q H H:=⟨Nat.le_refl _,fun _ _ _ _=>rfl⟩
theorem Ch.trans{p q:Nat}{A B C:Heap}(h:Ch p q A B)(k:Ch p q B C):Ch p q A C:=⟨Nat.le_trans h.len k.len,fun i hi h1 h2=>(k.get i (bd₀ hi h.len) h1 h2).trans (h.get i hi h1 h2)⟩
theorem Ch.app{p q:Nat}(H L:Heap):Ch p q H (H++L):=⟨by simp,fun _ h _ _=>aP h⟩
theorem Ch.setq{p q:Nat}(H:Heap)(x:Option (List Value)):Ch p q H (H.set q x):=⟨by simp,fun i _ _ h=>aF (fun e=>h e.symm)⟩
theorem Ch.setp{p q:Nat}(H:Heap)(x:Option (List Value)):Ch p q H (H.set p x):=⟨by simp,fun i _ h _=>aF (fun e=>h e.symm)⟩
def eR(l:List (Int×Int)):List Value:=l.flatMap fun p=>[.int .i64 p.1,.int .i64 p.2]
theorem GI(l:List (Int×Int)):∀(k:Nat),k<l.length->((eR l).drop (k*2)).take 2=[.int .i64 (l.getD k (0,0)).1,.int .i64 (l.getD k (0,0)).2]:=by
 induction l with
 | nil=>intro i h;simp at h
 | cons s l ih=>
  intro i h;cases i with
  | zero=>simp[eR]
  | succ i=>
   have:=ih i (by simpa using h);have e:eR (s::l)=.int .i64 s.1::.int .i64 s.2::eR l:=rfl;rw[e,Nat.succ_mul,List.drop_succ_cons,List.drop_succ_cons];simpa using this
theorem Cn(l:List (Int×Int)):(eR l).length=l.length*2:=by
 induction l with
 | nil=>rfl
 | cons s l ih=>simp only[eR,List.flatMap_cons,as₀,ak₀,an₀]at ih ⊢;omega
theorem Cm{l:List (Int×Int)}{k:Nat}(h:k<l.length):(eR l).toArray.extract (k*2) (k*2+2)=#[.int .i64 (l.getD k (0,0)).1,.int .i64 (l.getD k (0,0)).2]:=by
 rw[List.extract_toArray,List.extract_eq_take_drop,show k*2+2-k*2=2 by omega,GI l k h]
theorem rI{l:List (Int×Int)}{k:Nat}(h:k<l.length):l.drop k=l.getD k (0,0)::l.drop (k+1):=by
 rw[List.drop_eq_getElem_cons h];simp[List.getD,bc₀ h]
theorem AX{R C:Int}{g g':G}{r c b:Int}(h:(bm R C).asg g r c b=some g'):g'.cells.length=g.cells.length/\g'.next=g.next:=by
 obtain⟨_,_,_,_,_,_,_,_,rfl⟩:=qj h;simp
theorem Fil.mono{H H':Heap}{p q:Nat}{R C:Int}{g:G}(h:Fil H p q R C g)(e:Ext H H'):Fil H' p q R C g:=⟨e.get h.fp,e.get h.fq,h.ne⟩
theorem Fil.setq{H:Heap}{p q:Nat}{R C:Int}{g g':G}(h:Fil H p q R C g)(hl:g'.cells.length=g.cells.length)(hn:g'.next=g.next):Fil (H.set q (some (ak g'.cells))) p q R C g':=
 ⟨by rw[aF (fun e=>h.ne e.symm),h.fp,hl,hn],by rw[aE (Heap.get_lt h.fq)],h.ne⟩
theorem vM{R C:Int}:∀{l:List (Int×Int)} {g g':G} {b:Int},goG (bm R C) g l b=some g'->g'.cells.length=g.cells.length/\g'.next=g.next/\(l≠[]->0<=g.next/\g.next<=100000)
 | [],g,g',b,h=>by simp only[goG]at h;cases h;exact⟨rfl,rfl,fun h=>absurd rfl h⟩
 | p::l,g,g',b,h=>by
  simp only[goG]at h;split at h
  ·rename_i g1 h1
   have h2:=AX h1;have h3:=qj h1;obtain⟨e1,e2,_⟩:=vM h;exact⟨e1.trans h2.1,e2.trans h2.2,fun _=>⟨h3.2.2.2.2.2.2.1,h3.2.2.2.2.2.2.2.1⟩⟩
  ·simp at h
theorem Md{p q:Nat}{R C:Int}{g g':G}{l:List (Int×Int)}(hl8:l.length=8)(hd:Dim R C)(hf:Fil H p q R C g)(hlp:lo<=p)(hlo:lo<=q)(h:lI (bm R C) g l=some g') :
  Ev cp lo 180 [.pointer (some ⟨p,0,none⟩),.agg (eR l).toArray,.func (.func 132) #[.pointer (some ⟨p,0,none⟩)] #[]] H (fun _ H'=>Fil H' p q R C g'/\Ch p q H H'):=by
 unfold lI at h;split at h
 ·rename_i g2 hg
  cases h;have hpl:=Heap.get_lt hf.fp;have hql:=Heap.get_lt hf.fq;have hpv:=Cn l;rw[hl8]at hpv;refine stG rfl rfl ?_;unfold LR;simp only[kB,aC];refine aX ?_;refine bK (fun m S H'=>∃(k:Nat) (x y z w:Value) (g1:G),k<=8/\m=8-k/\S=[.pointer (some ⟨p,0,none⟩),.agg (eR l).toArray,.func (.func 132) #[.pointer (some ⟨p,0,none⟩)] #[],.pointer (some ⟨H.length,0,none⟩),x,y,.agg (eR l).toArray,.int .i64 k,z,w]/\Fil H' p q R C g1/\Ch p q H H'/\goG (bm R C) g1 (l.drop k) k=some g2) 8 ?_ ?_
  ·exact⟨0,_,_,_,_,g,byO,byO,by rw[List.take_of_length_le byO];rfl,hf.mono (Ext.app _ _),Ch.app _ _,by simpa using hg⟩
  rintro m S H1 ⟨k,x,y,z,w,g1,hk,rfl,rfl,hf1,hch,hgo⟩;have hlen1:=hch.len;(try simp only[aC]);refine dF ?_ ?_<;>intro h
  ·have hk8:k<8:=by simp at h;omega
   have he:=Cm (l:=l) (k:=k) byO;have hsz:(eR l).toArray.size=16:=by simp[hpv]
   rw[rI byO]at hgo;simp only[goG]at hgo;split at hgo
   ·rename_i g3 ha
    refine aX ?_;refine eD ?_;refine aA (D5 (q:=q) hd (hf1.mono (Ext.app _ _)) hlo byO ha) ?_;rintro v H2 rfl;refine aX ?_;simp only[cM];have hlq:=AX ha;refine⟨8-(k+1),byO,k+1,_,_,_,_,g3,byO,rfl,by simp only[ap₀,Int.natCast_one];rfl,(hf1.mono (Ext.app _ _)).setq hlq.1 hlq.2,(hch.trans (Ch.app _ _)).trans (Ch.setq _ _),by simpa using hgo⟩
   ·simp at hgo
  ·have hk8:k=8:=by simp at h;omega
   subst hk8;rw[List.drop_of_length_le byO]at hgo;simp only[goG]at hgo;cases hgo;have fp:=hf1.fp;have hplen:=Heap.get_lt fp;have hnx:=vM hg;have hnb:=hnx.2.2 (by intro e;rw[e]at hl8;simp at hl8);rw[<-hnx.2.1]at hnb;clear hnx;refine aX ?_;refine fS (by simp(disch:=try exact dO)only[evB,xtr, *];rfl) ?_;refine⟨⟨by rw[aE hplen];rfl,by rw[aF hf1.ne];exact hf1.fq,hf1.ne⟩,hch.trans (Ch.setp _ _)⟩
 ·simp at h
theorem oD{p q:Nat}{R C:Int}{g g':G}{arr:Array Value}(l:List (Int×Int))(ha:arr=(eR l).toArray)(hl8:l.length=8)(hd:Dim R C)(hf:Fil H p q R C g)(hlp:lo<=p)(hlo:lo<=q)(h:lI (bm R C) g l=some g') :
  Ev cp lo 180 [.pointer (some ⟨p,0,none⟩),.agg arr,.func (.func 132) #[.pointer (some ⟨p,0,none⟩)] #[]] H (fun _ H'=>Fil H' p q R C g'/\Ch p q H H'):=by
 subst ha;exact Md hl8 hd hf hlp hlo h
theorem jg{r c:Int}(h:inB r c=true):-4000<=r/\r<=4000/\-4000<=c/\c<=4000:=by
 simp only[inB,ac₀,af₀]at h;omega
theorem BT{p q:Nat}{R C:Int}{g g':G}{r c:Int}(hb:inB r c=true)(hd:Dim R C)(hf:Fil H p q R C g)(hlp:lo<=p)(hlo:lo<=q)(h:lI (bm R C) g (pl r c)=some g') :
  Ev cp lo 135 [.pointer (some ⟨p,0,none⟩),.int .i64 r,.int .i64 c,.func (.func 132) #[.pointer (some ⟨p,0,none⟩)] #[]] H (fun _ H'=>Fil H' p q R C g'/\Ch p q H H'):=by
 obtain⟨b1,b2,b3,b4⟩:=jg hb;refine stG rfl rfl ?_;unfold Kj;simp only[kB,aC];refine eD ?_;refine aA (oD (pl r c) (by simp only[eR,pl,List.flatMap_cons,List.flatMap_nil,am₀,List.nil_append]) rfl hd hf hlp hlo h) ?_;rintro v H2 hh;refine fS (by simp(disch:=try exact dO)only[evB,xtr, *];rfl) ?_;exact hh
set_option maxHeartbeats 4000000 in
theorem CD{p q:Nat}{R C:Int}{g g':G}{r c:Int}(hd:Dim R C)(hf:Fil H p q R C g)(hlp:lo<=p)(hlo:lo<=q)(h:gT (bm R C) R C g r c=some g') :
  Ev cp lo 133 [.pointer (some ⟨p,0,none⟩),.int .i64 r,.int .i64 c,.func (.func 132) #[.pointer (some ⟨p,0,none⟩)] #[]] H (fun _ H'=>Fil H' p q R C g'/\Ch p q H H'):=by
 have hd':=hd;obtain⟨r0,r1,c0,c1⟩:=hd';have fp:=hf.fp;unfold gT at h;split at h
 ·simp at h
 rename_i ga ha;split at h
 ·simp at h
 rename_i gb hb;split at h
 ·simp at h
 rename_i gc hc;have hlast:=h;clear h;refine stG rfl rfl ?_;unfold Kh;simp only[kB,aC];refine aX ?_;clear fp;refine iV (fun S' H'=>S'=[.pointer (some ⟨p,0,none⟩),.int .i64 r,.int .i64 c,.func (.func 132) #[.pointer (some ⟨p,0,none⟩)] #[],.int .i64 R,.int .i64 C]/\Fil H' p q R C ga/\Ch p q H H') ?_ ?_
 ·refine dF ?_ ?_<;>intro h
  ·have e:k1 R r c=true:=h
   rw[e]at ha;(try simp only[aC]);refine eD ?_;refine aA (oD (YtmnlgdpdgjbfgaaGreat.c1 R C) (by simp only[eR,YtmnlgdpdgjbfgaaGreat.c1,List.flatMap_cons,List.flatMap_nil,am₀,List.nil_append]) rfl hd hf hlp hlo ha) ?_;rintro v H2 hh;(try simp only[aC]);exact⟨by trivial,hh⟩
  ·have e:k1 R r c=false:=h
   rw[e]at ha;cases ha;(try simp only[aC]);exact⟨by trivial,hf,Ch.refl _⟩
 rintro S' H1 ⟨rfl,hf1,hc1⟩;(try simp only[aC]);refine iV (fun S' H'=>S'=[.pointer (some ⟨p,0,none⟩),.int .i64 r,.int .i64 c,.func (.func 132) #[.pointer (some ⟨p,0,none⟩)] #[],.int .i64 R,.int .i64 C]/\Fil H' p q R C gb/\Ch p q H H') ?_ ?_
 ·refine dF ?_ ?_<;>intro h
  ·have e:k2 R C r c=true:=h
   rw[e]at hb;(try simp only[aC]);refine eD ?_;refine aA (oD (YtmnlgdpdgjbfgaaGreat.c2 R C) (by simp only[eR,YtmnlgdpdgjbfgaaGreat.c2,List.flatMap_cons,List.flatMap_nil,am₀,List.nil_append]) rfl hd hf1 hlp hlo hb) ?_;rintro v H2 hh;(try simp only[aC]);exact⟨by trivial,hh.1,hc1.trans hh.2⟩
  ·have e:k2 R C r c=false:=h
   rw[e]at hb;cases hb;(try simp only[aC]);exact⟨by trivial,hf1,hc1⟩
 rintro S' H2 ⟨rfl,hf2,hc2⟩;(try simp only[aC]);refine iV (fun S' H'=>S'=[.pointer (some ⟨p,0,none⟩),.int .i64 r,.int .i64 c,.func (.func 132) #[.pointer (some ⟨p,0,none⟩)] #[],.int .i64 R,.int .i64 C]/\Fil H' p q R C gc/\Ch p q H H') ?_ ?_
 ·refine dF ?_ ?_<;>intro h
  ·have e:k3 R C r c=true:=h
   rw[e]at hc;(try simp only[aC]);refine eD ?_;refine aA (oD (YtmnlgdpdgjbfgaaGreat.c3 R C) (by simp only[eR,YtmnlgdpdgjbfgaaGreat.c3,List.flatMap_cons,List.flatMap_nil,am₀,List.nil_append]) rfl hd hf2 hlp hlo hc) ?_;rintro v H2 hh;(try simp only[aC]);exact⟨by trivial,hh.1,hc2.trans hh.2⟩
  ·have e:k3 R C r c=false:=h
   rw[e]at hc;cases hc;(try simp only[aC]);exact⟨by trivial,hf2,hc2⟩
 rintro S' H3 ⟨rfl,hf3,hc3⟩;(try simp only[aC]);refine dF ?_ ?_<;>intro h
 ·have e:k4 R C r c=true:=h
  rw[e]at hlast;(try simp only[aC]);refine eD ?_;refine aA (oD (YtmnlgdpdgjbfgaaGreat.c4 R C) (by simp only[eR,YtmnlgdpdgjbfgaaGreat.c4,List.flatMap_cons,List.flatMap_nil,am₀,List.nil_append]) rfl hd hf3 hlp hlo hlast) ?_;rintro v H2 hh;(try simp only[aC]);refine fS (by simp(disch:=try exact dO)only[evB,xtr, *];rfl) ?_;exact⟨hh.1,hc3.trans hh.2⟩
 ·have e:k4 R C r c=false:=h
  rw[e]at hlast;cases hlast;(try simp only[aC]);refine fS (by simp(disch:=try exact dO)only[evB,xtr, *];rfl) ?_;exact⟨hf3,hc3⟩
theorem D1{n:Int}(h0:0<=n)(h1:n<4294967296):((BitVec.ofInt 64 n &&& BitVec.ofInt 64 4294967295).toNat:Int)=n:=by
 obtain⟨m,rfl⟩:∃m:Nat,n=m:=⟨n.toNat,byO⟩;have e:(BitVec.ofInt 64 (m:Int)).toNat=m:=by simp[BitVec.toNat_ofInt];omega
 rw[BitVec.toNat_and,e];have e2:(BitVec.ofInt 64 4294967295).toNat=2^32-1:=by decide
 rw[e2,Nat.and_two_pow_sub_one_eq_mod];omega
theorem QY{n:Int}(h0:0<=n)(h1:n<4294967296):Ev cp lo 201 [.int .u64 1,.int .u64 n] H (fun v H'=>H'=H/\v=.tuple #[.int .u64 0,.int .u64 n]):=by
 have e1:IntKind.u64.wrap ((BitVec.ofInt IntKind.u64.bits 1 &&& BitVec.ofInt IntKind.u64.bits 4294967295).toNat:Int)=1:=by decide
 have e2:IntKind.u64.wrap ((BitVec.ofInt IntKind.u64.bits n &&& BitVec.ofInt IntKind.u64.bits 4294967295).toNat:Int)=n:=by
  rw[show IntKind.u64.bits=64 from rfl,D1 h0 h1];exact ya h0 byO
 have e3:IntKind.u64.wrap ((BitVec.ofInt IntKind.u64.bits 0 &&& BitVec.ofInt IntKind.u64.bits 4294967295).toNat:Int)=0:=by decide
 have e4:Int.fdiv 1 (2^(min (Int.toNat 32) IntKind.u64.bits))=0:=by decide
 have e5:Int.fdiv n (2^(min (Int.toNat 32) IntKind.u64.bits))=0:=by
  rw[show(2:Int)^(min (Int.toNat 32) IntKind.u64.bits)=4294967296 by decide,Int.fdiv_eq_ediv_of_nonneg _ byO];omega
 have e6:Int.fdiv 0 (2^(min (Int.toNat 32) IntKind.u64.bits))=0:=by decide
 refine stG rfl rfl ?_;unfold L6;simp only[kB,aC];refine aX ?_;have e7:IntKind.u64.wrap 0=0:=by decide
 simp only[e1,e2,e3,e4,e5,e6,e7,Int.zero_mul,Int.one_mul,Int.mul_zero,Int.zero_add,Int.add_zero];refine dY ?_;exact⟨rfl,rfl⟩
theorem QX{n:Int}(h0:0<=n)(h1:n<4294967296):Ev cp lo 179 [.int .u64 1,.int .u64 n] H (fun v H'=>H'=H/\v=.tuple #[.int .u64 0,.int .u64 n]):=by
 refine stG rfl rfl ?_;unfold LQ;simp only[kB,aC];refine aX ?_;refine dF ?_ ?_<;>intro h
 ·cases h
 (try simp only[aC]);refine eD ?_;refine aA (QY h0 h1) ?_;rintro v H1 ⟨rfl,rfl⟩;refine aX ?_;refine dY ?_;exact⟨rfl,rfl⟩
theorem G4{i:Nat}{n:Int}(h0:1<=n)(h1:n<1000000)(hlo:lo<=H.length)(hg:H.get i=some [.int .i64 (-1)]) :
  Ev cp lo 131 [.slice (some ⟨i,0,none⟩) 1 1,.int .i64 n] H (fun v H'=>Ext H H'/\v=.slice (some ⟨H.length,0,none⟩) n.toNat n.toNat/\H'.get H.length=some (ak (List.replicate n.toNat (-1)))):=by
 have hil:=Heap.get_lt hg;have hg':H.get i=some (ak [-1]):=hg;clear hg;refine stG rfl rfl ?_;unfold Kf;simp only[kB,aC];refine aX ?_;refine dF ?_ ?_<;>intro h
 ·simp at h;omega
 clear h;(try simp only[aC]);refine eD ?_;refine aA (QX (n:=n) byO byO) ?_;rintro v H1 ⟨rfl,rfl⟩;refine aX ?_;refine dF ?_ ?_<;>intro h
 ·simp at h;omega
 clear h;(try simp only[aC]);obtain⟨N,rfl⟩:∃N:Nat,n=N:=⟨n.toNat,byO⟩;have hN:1<=N:=byO;have hm1:min 1 N=1:=byO;have hm2:(ak (List.replicate N 0)).length=N:=by simp[ak]
 have hm3:(List.replicate N (0:Int)).length=N:=by simp
 refine aX ?_;refine bK (fun m S H'=>∃(k:Nat) (a b x y:Value),1<=k/\k<=N/\m=N-k/\S=[.slice (some ⟨i,0,none⟩) 1 1,.int .i64 N,.slice none 0 0,.int .u64 0,.int .u64 N,.slice (some ⟨H1.length,0,none⟩) N N,.int .i64 k,a,b,.int .i64 1,x,y]/\H'=H1++[some (ak (List.replicate k (-1)++List.replicate (N-k) 0))]) (N-1) ?_ ?_
 ·refine⟨1,_,_,_,_,byO,byO,rfl,rfl,?_⟩
  congr 2;rw[rk];congr 1;simp
 rintro m S H2 ⟨k,xa,xb,x,y,hk1,hk2,rfl,rfl,rfl⟩;(try simp only[aC]);refine dF ?_ ?_<;>intro h
 ·have hk:k<N:=by simp at h;omega
  clear h;have hl:(List.replicate k (-1)++List.replicate (N-k) (0:Int)).length=N:=by simp;omega
  generalize hmn:min k (N-k)=w;have hw:w<=k/\w<=N-k/\1<=w:=byO;refine aX ?_;simp only[cM];refine⟨N-(k+w),byO,k+w,_,_,_,_,byO,byO,rfl,by simp only[ap₀];rfl,?_⟩;congr 4;have e1:List.take k (List.replicate k (-1)++List.replicate (N-k) (0:Int))=List.replicate k (-1):=by simp
  have e2:List.take w (List.replicate k (-1)++List.replicate (N-k) (0:Int))=List.replicate w (-1):=by
   rw[List.take_append_of_le_length (by simp;omega),List.take_replicate,Nat.min_eq_left hw.1]
  have e3:List.drop (k+min w N) (List.replicate k (-1)++List.replicate (N-k) (0:Int))=List.replicate (N-(k+w)) 0:=by
   rw[Nat.min_eq_left byO,List.drop_append,List.drop_of_length_le (by simp)];simp;omega
  rw[e1,e2,e3,<-ba₀,List.replicate_append_replicate]
 ·have hk:k=N:=by simp at h;omega
  subst hk;clear h;refine aX ?_;refine dY ?_;refine⟨Ext.app _ _,rfl,?_⟩;simp(disch:=try exact dO)only[evB,xtr, *];simp
theorem xR{R C:Int}{g g':G}{l:List (Int×Int)}(h:lI (bm R C) g l=some g'):g'.cells.length=g.cells.length:=by
 unfold lI at h;split at h
 ·rename_i g1 h1;cases h;exact(vM h1).1
 ·simp at h
theorem mO{R C:Int}{g g':G}{r c:Int}(h:sO (bm R C) g r c=some g'):g'.cells.length=g.cells.length:=by
 unfold sO at h;split at h
 ·exact xR h
 ·cases h;rfl
theorem qY{R C:Int}{b:Bool}{g g':G}{l:List (Int×Int)}(h:kF (bm R C) b g l=some g'):g'.cells.length=g.cells.length:=by
 unfold kF at h;split at h
 ·exact xR h
 ·cases h;rfl
theorem xD{R C:Int}{g g':G}{r c:Int}(h:gT (bm R C) R C g r c=some g'):g'.cells.length=g.cells.length:=by
 unfold gT at h;split at h
 ·simp at h
 rename_i ga ha;split at h
 ·simp at h
 rename_i gb hb;split at h
 ·simp at h
 rename_i gc hc;rw[qY h,qY hc,qY hb,qY ha]
theorem HH{R C:Int}:∀{k:Nat} {g g':G} {r c r' c':Int},upG (bm R C) C k g r c=some (g',r',c')->g'.cells.length=g.cells.length/\-4002<=r'/\r'<=4002/\-4002<=c'/\c'<=4002
 | 0,_,_,_,_,_,_,h=>by simp[upG]at h
 | k+1,g,g',r,c,r',c',h=>by
  simp only[upG,oJ]at h;split at h
  ·rename_i hb
   have hb:=jg hb;split at h
   ·simp at h
   rename_i g1 h1;split at h
   ·have:=HH h;rw[mO h1]at this;exact this
   ·cases h;exact⟨mO h1,byO,byO,byO,byO⟩
  ·simp at h
theorem xP{R C:Int}:∀{k:Nat} {g g':G} {r c r' c':Int},km (bm R C) R k g r c=some (g',r',c')->g'.cells.length=g.cells.length/\-4002<=r'/\r'<=4002/\-4002<=c'/\c'<=4002
 | 0,_,_,_,_,_,_,h=>by simp[km]at h
 | k+1,g,g',r,c,r',c',h=>by
  simp only[km,oJ]at h;split at h
  ·rename_i hb
   have hb:=jg hb;split at h
   ·simp at h
   rename_i g1 h1;split at h
   ·have:=xP h;rw[mO h1]at this;exact this
   ·cases h;exact⟨mO h1,byO,byO,byO,byO⟩
  ·simp at h
set_option maxHeartbeats 4000000 in
theorem BP{R C:Int}{gf:G}(hd:Dim R C)(hlo:lo<=H.length)(h:Cg R C=some gf) :
  Ev cp lo 78 [.int .i64 R,.int .i64 C] H (fun v H'=>Ext H H'/\∃q,H.length<=q/\v=.slice (some ⟨q,0,none⟩) gf.cells.length gf.cells.length/\H'.get q=some (ak gf.cells)):=by
 have hd':=hd;obtain⟨r0,r1,c0,c1⟩:=hd';have hm:=eK (a:=R) (b:=C) (A:=200) (B:=200) byO byO byO c1 byO;have hm1:6*C<=R*C:=Int.mul_le_mul_of_nonneg_right r0 byO;refine stG rfl rfl ?_;unfold P5;simp only[kB,aC];refine aX ?_;refine eD ?_;refine aA (G4 (lo:=lo) (H:=H++[some [Value.int .i64 (-1)]]) (n:=R*C) (i:=H.length) byO byO (by simp;omega) HU) ?_;rintro v H1 ⟨hx,rfl,hq⟩;have hx0:=hx.of_app;have hl1:=hx.1;simp only[as₀,ak₀,an₀]at hq hl1;generalize hqq:H.length+(0+1)=q at *;have hql:=Heap.get_lt hq;refine aX ?_;have hf:Fil (H1++[some [.int .i64 R,.int .i64 C,.slice (some ⟨q,0,none⟩) (R*C).toNat (R*C).toNat,.int .i64 0]]) H1.length q R C ⟨0,List.replicate (R*C).toNat (-1)⟩:=by
  refine⟨?_,?_,byO⟩
  ·rw[aH];simp
  ·rw[aP hql];exact hq
 generalize hp:H1.length=p at *;unfold Cg at h;generalize hg0:(⟨0,List.replicate (R*C).toNat (-1)⟩:G)=g0 at *;have hlen0:(g0.cells.length:Int)=R*C:=by rw[<-hg0];simp;omega
 generalize hH2:H1++[some [.int .i64 R,.int .i64 C,.slice (some ⟨q,0,none⟩) (R*C).toNat (R*C).toNat,.int .i64 0]]=H2 at *;have hch0:∀i,i<H.length->H2.get i=H.get i:=by
  intro i hi;rw[<-hH2,aP byO];exact hx0.2 i hi
 have hl2:H1.length<=H2.length:=by rw[<-hH2];simp
 have hlp:lo<=p:=byO;have hlq:lo<=q:=byO;have hHp:H.length<=p:=byO;have hHq:H.length<=q:=byO;generalize hy12:Value.slice (some ⟨H.length,0,none⟩) 1 1=y12;generalize hy13:Value.slice (some ⟨q,0,none⟩) (R*C).toNat (R*C).toNat=y13;refine bK (fun m S H'=>∃(t:Bool) (r c:Int) (g:G) (a8 a9 a15 a16:Value),S=[.int .i64 R,.int .i64 C,.slice none 0 0,.pointer (some ⟨p,0,none⟩),.func (.func 132) #[.pointer (some ⟨p,0,none⟩)] #[],.int .i64 r,.int .i64 c,.bool t,a8,a9,.int .i64 R,.int .i64 C,y12,y13,.pointer (some ⟨p,0,none⟩),a15,a16]/\Fil H' p q R C g/\(g.cells.length:Int)=R*C/\(∀i,i<H.length->H'.get i=H.get i)/\H.length<=H'.length /\
  ((t=true/\∃k,m=k+1/\tO (bm R C) R C k g r c=some gf)\/(t=false/\m=0/\g=gf))) 201 ?_ ?_
 ·exact⟨true,4,0,g0,_,_,_,_,rfl,hf,hlen0,hch0,byO,.inl ⟨rfl,200,rfl,h⟩⟩
 rintro m S H3 ⟨t,r,c,g,a8,a9,a15,a16,rfl,hf3,hlen3,hch3,hl3,hcase⟩;(try simp only[aC]);refine dF ?_ ?_<;>intro h
 ·subst h
  rcases hcase with ⟨_,k,rfl,hout⟩|⟨e,_⟩;rotate_left
  ·cases e
  cases k with
  | zero=>simp[tO]at hout
  | succ k=>
  simp only[tO,oJ]at hout;split at hout;rotate_left
  ·simp at hout
  rename_i hinB;have hb:=jg hinB;split at hout
  ·simp at hout
  rename_i g4 hg4;split at hout
  ·simp at hout
  rename_i g5 ra ca hg5;split at hout
  ·simp at hout
  rename_i g6 rb cb hg6;have bl5:=HH hg5;have bl6:=xP hg6;have bl4:=xD hg4;(try simp only[aC]);refine eD ?_;refine aA (CD hd hf3 hlp hlq hg4) ?_;rintro v H4 ⟨hf4,hc4⟩;refine aX ?_;have hlen4:(g4.cells.length:Int)=R*C:=by rw[bl4];exact hlen3
  have hch4:∀i,i<H.length->H4.get i=H.get i:=fun i hi=>by rw[hc4.get i byO byO byO];exact hch3 i hi
  have hl4:H.length<=H4.length:=Nat.le_trans hl3 hc4.len;refine AY (fun S H'=>∃(a8 a9 a15 a16:Value),S=[.int .i64 R,.int .i64 C,.slice none 0 0,.pointer (some ⟨p,0,none⟩),.func (.func 132) #[.pointer (some ⟨p,0,none⟩)] #[],.int .i64 ra,.int .i64 ca,.bool true,a8,a9,.int .i64 R,.int .i64 C,y12,y13,.pointer (some ⟨p,0,none⟩),a15,a16]/\Fil H' p q R C g5/\(∀i,i<H.length->H'.get i=H.get i)/\H.length<=H'.length) ?_ ?_
  ·(try simp only[aC])
   refine bK (fun m S H'=>∃(t:Bool) (r c:Int) (g:G) (a9 a15 a16:Value),S=[.int .i64 R,.int .i64 C,.slice none 0 0,.pointer (some ⟨p,0,none⟩),.func (.func 132) #[.pointer (some ⟨p,0,none⟩)] #[],.int .i64 r,.int .i64 c,.bool true,.bool t,a9,.int .i64 R,.int .i64 C,y12,y13,.pointer (some ⟨p,0,none⟩),a15,a16]/\Fil H' p q R C g/\(g.cells.length:Int)=R*C/\(∀i,i<H.length->H'.get i=H.get i)/\H.length<=H'.length /\
    ((t=true/\∃k,m=k+1/\upG (bm R C) C k g r c=some (g5,ra,ca))\/(t=false/\m=0/\g=g5/\r=ra/\c=ca))) 201 ?_ ?_
   ·exact⟨true,r,c,g4,_,_,_,rfl,hf4,hlen4,hch4,hl4,.inl ⟨rfl,200,rfl,hg5⟩⟩
   rintro m S H5 ⟨t,r,c,g,a9,a15,a16,rfl,hf5,hlen5,hch5,hl5,hcase⟩;(try simp only[aC]);refine dF ?_ ?_<;>intro h
   ·subst h
    rcases hcase with ⟨_,k,rfl,hup⟩|⟨e,_⟩;rotate_left
    ·cases e
    cases k with
    | zero=>simp[upG]at hup
    | succ k=>
    simp only[upG,oJ]at hup;split at hup;rotate_left
    ·simp at hup
    rename_i hinB;have hb:=jg hinB;split at hup
    ·simp at hup
    rename_i g7 hg7;have hlen7:(g7.cells.length:Int)=R*C:=by rw[mO hg7];exact hlen5
    (try simp only[aC]);refine eD ?_;refine aA (Er hd hf5 hlen5) ?_;rintro v H6 ⟨rfl,rfl⟩;(try simp only[aC]);refine iV (fun S H'=>∃(a9 a15 a16:Value),S=[.int .i64 R,.int .i64 C,.slice none 0 0,.pointer (some ⟨p,0,none⟩),.func (.func 132) #[.pointer (some ⟨p,0,none⟩)] #[],.int .i64 r,.int .i64 c,.bool true,.bool true,a9,.int .i64 R,.int .i64 C,y12,y13,.pointer (some ⟨p,0,none⟩),a15,a16]/\Fil H' p q R C g7/\(∀i,i<H.length->H'.get i=H.get i)/\H.length<=H'.length) ?_ ?_
    ·refine dF ?_ ?_<;>intro h
     ·simp only[sO,h,if_true]at hg7
      (try simp only[aC]);refine eD ?_;refine aA (BT hinB hd hf5 hlp hlq hg7) ?_;rintro v H7 ⟨hf7,hc7⟩;(try simp only[aC]);exact⟨_,_,_,rfl,hf7,fun i hi=>by rw[hc7.get i byO byO byO];exact hch5 i hi,Nat.le_trans hl5 hc7.len⟩
     ·simp only[sO,h]at hg7
      cases hg7;(try simp only[aC]);exact⟨_,_,_,rfl,hf5,hch5,hl5⟩
    rintro S H7 ⟨b9,b15,b16,rfl,hf7,hch7,hl7⟩;refine aX ?_;simp only[cM];split at hup
    ·rename_i hcond
     refine⟨k+1,byO,_,r-2,c+2,g7,_,_,_,rfl,hf7,hlen7,hch7,hl7,.inl ⟨by simp;omega,k,rfl,hup⟩⟩
    ·rename_i hcond
     simp only[ab₀,ad₀]at hup;refine⟨0,byO,_,r-2,c+2,g7,_,_,_,rfl,hf7,hlen7,hch7,hl7,.inr ⟨by simp;omega,rfl,hup.1,hup.2.1,hup.2.2⟩⟩
   ·subst h
    rcases hcase with ⟨e,_⟩|⟨_,_,rfl,rfl,rfl⟩
    ·cases e
    (try simp only[aC]);exact⟨_,_,_,_,rfl,hf5,hch5,hl5⟩
  rintro S H5 ⟨b8,b9,b15,b16,rfl,hf5,hch5,hl5⟩;refine aX ?_;have hlen5:(g5.cells.length:Int)=R*C:=by rw[bl5.1];exact hlen4
  refine AY (fun S H'=>∃(a8 a9 a15 a16:Value),S=[.int .i64 R,.int .i64 C,.slice none 0 0,.pointer (some ⟨p,0,none⟩),.func (.func 132) #[.pointer (some ⟨p,0,none⟩)] #[],.int .i64 rb,.int .i64 cb,.bool true,a8,a9,.int .i64 R,.int .i64 C,y12,y13,.pointer (some ⟨p,0,none⟩),a15,a16]/\Fil H' p q R C g6/\(∀i,i<H.length->H'.get i=H.get i)/\H.length<=H'.length) ?_ ?_
  ·(try simp only[aC])
   refine bK (fun m S H'=>∃(t:Bool) (r c:Int) (g:G) (a8 a15 a16:Value),S=[.int .i64 R,.int .i64 C,.slice none 0 0,.pointer (some ⟨p,0,none⟩),.func (.func 132) #[.pointer (some ⟨p,0,none⟩)] #[],.int .i64 r,.int .i64 c,.bool true,a8,.bool t,.int .i64 R,.int .i64 C,y12,y13,.pointer (some ⟨p,0,none⟩),a15,a16]/\Fil H' p q R C g/\(g.cells.length:Int)=R*C/\(∀i,i<H.length->H'.get i=H.get i)/\H.length<=H'.length /\
    ((t=true/\∃k,m=k+1/\km (bm R C) R k g r c=some (g6,rb,cb))\/(t=false/\m=0/\g=g6/\r=rb/\c=cb))) 201 ?_ ?_
   ·exact⟨true,ra+1,ca+3,g5,_,_,_,rfl,hf5,hlen5,hch5,hl5,.inl ⟨rfl,200,rfl,hg6⟩⟩
   rintro m S H6 ⟨t,r,c,g,a8,a15,a16,rfl,hf6,hlen6,hch6,hl6,hcase⟩;(try simp only[aC]);refine dF ?_ ?_<;>intro h
   ·subst h
    rcases hcase with ⟨_,k,rfl,hup⟩|⟨e,_⟩;rotate_left
    ·cases e
    cases k with
    | zero=>simp[km]at hup
    | succ k=>
    simp only[km,oJ]at hup;split at hup;rotate_left
    ·simp at hup
    rename_i hinB;have hb:=jg hinB;split at hup
    ·simp at hup
    rename_i g7 hg7;have hlen7:(g7.cells.length:Int)=R*C:=by rw[mO hg7];exact hlen6
    (try simp only[aC]);refine eD ?_;refine aA (Er hd hf6 hlen6) ?_;rintro v H7 ⟨rfl,rfl⟩;(try simp only[aC]);refine iV (fun S H'=>∃(a8 a15 a16:Value),S=[.int .i64 R,.int .i64 C,.slice none 0 0,.pointer (some ⟨p,0,none⟩),.func (.func 132) #[.pointer (some ⟨p,0,none⟩)] #[],.int .i64 r,.int .i64 c,.bool true,a8,.bool true,.int .i64 R,.int .i64 C,y12,y13,.pointer (some ⟨p,0,none⟩),a15,a16]/\Fil H' p q R C g7/\(∀i,i<H.length->H'.get i=H.get i)/\H.length<=H'.length) ?_ ?_
    ·refine dF ?_ ?_<;>intro h
     ·simp only[sO,h,if_true]at hg7
      (try simp only[aC]);refine eD ?_;refine aA (BT hinB hd hf6 hlp hlq hg7) ?_;rintro v H8 ⟨hf8,hc8⟩;(try simp only[aC]);exact⟨_,_,_,rfl,hf8,fun i hi=>by rw[hc8.get i byO byO byO];exact hch6 i hi,Nat.le_trans hl6 hc8.len⟩
     ·simp only[sO,h]at hg7
      cases hg7;(try simp only[aC]);exact⟨_,_,_,rfl,hf6,hch6,hl6⟩
    rintro S H8 ⟨b9,b15,b16,rfl,hf8,hch8,hl8⟩;refine aX ?_;simp only[cM];split at hup
    ·rename_i hcond
     refine⟨k+1,byO,_,r+2,c-2,g7,_,_,_,rfl,hf8,hlen7,hch8,hl8,.inl ⟨by simp;omega,k,rfl,hup⟩⟩
    ·rename_i hcond
     simp only[ab₀,ad₀]at hup;refine⟨0,byO,_,r+2,c-2,g7,_,_,_,rfl,hf8,hlen7,hch8,hl8,.inr ⟨by simp;omega,rfl,hup.1,hup.2.1,hup.2.2⟩⟩
   ·subst h
    rcases hcase with ⟨e,_⟩|⟨_,_,rfl,rfl,rfl⟩
    ·cases e
    (try simp only[aC]);exact⟨_,_,_,_,rfl,hf6,hch6,hl6⟩
  rintro S H6 ⟨d8,d9,d15,d16,rfl,hf6,hch6,hl6⟩;refine aX ?_;simp only[cM];have hlen6:(g6.cells.length:Int)=R*C:=by rw[bl6.1];exact hlen5
  split at hout
  ·rename_i hcond
   refine⟨k+1,byO,_,rb+3,cb+1,g6,_,_,_,_,rfl,hf6,hlen6,hch6,hl6,.inl ⟨by simp;omega,k,rfl,hout⟩⟩
  ·rename_i hcond
   cases hout;refine⟨0,byO,_,rb+3,cb+1,gf,_,_,_,_,rfl,hf6,hlen6,hch6,hl6,.inr ⟨by simp;omega,rfl,rfl⟩⟩
 ·subst h
  rcases hcase with ⟨e,_⟩|⟨_,_,rfl⟩
  ·cases e
  have fp:=hf3.fp;refine aX ?_;refine dY ?_;exact⟨⟨hl3,hch3⟩,q,hHq,rfl,hf3.fq⟩
end Go.Proofs.YtmnlgdpdgjbfgaaGreat
