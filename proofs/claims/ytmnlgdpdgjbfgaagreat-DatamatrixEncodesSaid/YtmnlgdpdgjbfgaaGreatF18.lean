/- Lemmas. -/
import Derived.Test.YtmnlgdpdgjbfgaaGreatF9
import Derived.Test.YtmnlgdpdgjbfgaaGreatF13
set_option linter.all false
namespace Go.Proofs.YtmnlgdpdgjbfgaaGreat
open Go.Abs
variable{H:Heap}{lo:Nat}{i:Nat}
namespace XJWfit
def xtr:=zzi @Sz.cells.eq_1 @Sz.val.eq_1
end XJWfit
open XJWfit
theorem RZ(n:Int)(sq:Bool)(hlo:lo<=H.length):Ev cp lo 39 [.int .i64 n,.bool sq] H (fun v H'=>Ext H H'/\v=.tuple #[(tN n sq).1.val,.int .i64 (tN n sq).2]):=by
 refine stG rfl rfl ?_;unfold QL;simp only[kB,aD];refine aA ?_;refine aP ?_ ?_<;>intro h
 ·simp only[af₀]at h
  refine aA ?_;refine aK ?_;exact⟨Ext.app _ _,by simp[aM,tN,h,Sz.zero,Sz.val]⟩
 simp only[ai₀,Int.not_lt]at h;(try simp only[aD]);refine aP ?_ ?_<;>intro h
 ·simp only[af₀]at h
  refine aA ?_;refine aK ?_;exact⟨Ext.app _ _,by simp[aM,tN,h,show ¬ n<1 by omega,Sz.zero,Sz.val]⟩
 rename_i h1;simp only[ai₀,Int.not_lt]at h;refine aA ?_;refine aT ?_;refine aC (wb (by simp;omega)) ?_;rintro v H1 ⟨j,hj,rfl,hg,hE⟩;have g0:H1.get H.length=some _:=hE.get aN;have g1:H1.get (H.length+1)=some _:=hE.get aN;have hx:=hE.of_app;have hl:=hE.1;simp only[as₀,ak₀,an₀]at hj hl;clear hE;refine aA ?_;refine aY (fun m S H'=>∃(i:Int) (x y:Value),0<=i/\i<=30/\m=(30-i).toNat/\S=[.int .i64 n,.bool sq,.pointer (some ⟨H.length,0,none⟩),.int .i64 0,.pointer (some ⟨H.length+1,0,none⟩),x,.slice (some ⟨j,0,none⟩) 30 30,.int .i64 30,.int .i64 i,y]/\Ext H H'/\j<H'.length/\H'.get H.length=some Sz.zero.cells/\H'.get (H.length+1)=some (cJ n sq i.toNat).cells/\H'.get j=some szCells) 30 ?_ ?_
 ·exact⟨0,_,_,byO,byO,byO,rfl,hx,Heap.get_lt hg,g0,g1,hg⟩
 rintro m S H2 ⟨i,x,y,hi0,hi1,rfl,rfl,hx2,hj2,g0,g1,hg⟩;have hl2:=Heap.get_lt g1;(try simp only[aD]);refine aP ?_ ?_<;>intro h
 ·simp only[af₀]at h
  (try simp only[aD]);have hrow:=gW (i:=i.toNat) byO;have hlen:=fh;refine aA ?_;refine aP ?_ ?_<;>intro h
  ·refine aA ?_
   simp only[ak];refine⟨(30-(i+1)).toNat,by omega,i+1,_,_,by omega,by omega,rfl,rfl,hx2.trans (Ext.app _ _),by simp;omega,by simp(disch:=try exact dO)only[evB,xtr,Nat.reduceAdd,Nat.reduceBEq,Int.reduceToNat, *],?_,by simp(disch:=try exact dO)only[evB,xtr,Nat.reduceAdd,Nat.reduceBEq,Int.reduceToNat, *]⟩;have hc:(sq=true/\(bO i.toNat).r≠(bO i.toNat).c)\/(bO i.toNat).d<n:=by simpa using h
   rw[show(i+1).toNat=i.toNat+1 by omega,iT byO,cm,if_pos hc];simp(disch:=try exact dO)only[evB,xtr,Nat.reduceAdd,Nat.reduceBEq,Int.reduceToNat, *]
  ·have hc:¬ ((sq=true/\(bO i.toNat).r≠(bO i.toNat).c)\/(bO i.toNat).d<n):=by
    intro hc;have:(sq&&decide ((bO i.toNat).r≠(bO i.toNat).c) || decide ((bO i.toNat).d<n))=true:=by simpa using hc
    rw[this]at h;cases h
   (try simp only[aD]);refine aP ?_ ?_<;>intro h
   ·have hd:(cJ n sq i.toNat).d=0\/(bO i.toNat).d<(cJ n sq i.toNat).d:=by simpa using h
    refine aA ?_;simp only[ak];refine⟨(30-(i+1)).toNat,by omega,i+1,_,_,by omega,by omega,rfl,rfl,(hx2.set (by omega)).trans (Ext.app _ _),by simp;omega,by simp(disch:=try exact dO)only[evB,xtr,Nat.reduceAdd,Nat.reduceBEq,Int.reduceToNat, *],?_,by simp(disch:=try exact dO)only[evB,xtr,Nat.reduceAdd,Nat.reduceBEq,Int.reduceToNat, *]⟩;rw[show(i+1).toNat=i.toNat+1 by omega,iT byO,cm,if_neg hc,if_pos hd];simp(disch:=try exact dO)only[evB,xtr,Nat.reduceAdd,Nat.reduceBEq,Int.reduceToNat, *]
   ·have hd:¬ ((cJ n sq i.toNat).d=0\/(bO i.toNat).d<(cJ n sq i.toNat).d):=by
     intro hc;have:(decide ((cJ n sq i.toNat).d=0) || decide ((bO i.toNat).d<(cJ n sq i.toNat).d))=true:=by simpa using hc
     rw[this]at h;cases h
    refine aA ?_;simp only[ak];refine⟨(30-(i+1)).toNat,by omega,i+1,_,_,by omega,by omega,rfl,rfl,hx2.trans (Ext.app _ _),by simp;omega,by simp(disch:=try exact dO)only[evB,xtr,Nat.reduceAdd,Nat.reduceBEq,Int.reduceToNat, *],?_,by simp(disch:=try exact dO)only[evB,xtr,Nat.reduceAdd,Nat.reduceBEq,Int.reduceToNat, *]⟩;rw[show(i+1).toNat=i.toNat+1 by omega,iT byO,cm,if_neg hc,if_neg hd];simp(disch:=try exact dO)only[evB,xtr,Nat.reduceAdd,Nat.reduceBEq,Int.reduceToNat, *]
 ·simp only[ai₀,Int.not_lt]at h
  obtain rfl:i=30:=byO;refine aA ?_;refine aK ?_;refine⟨hx2.set (Nat.le_refl _),?_⟩;simp[aM,tN,show ¬ n<1 by omega,show ¬ 1558<n by omega,Sz.val]
open Go.Abs
theorem dV{a b A B:Int}(h1:-A<=a)(h2:a<=A)(h3:0<=b)(h4:b<=B)(hA:0<=A):-(A*B)<=a*b/\a*b<=A*B:=by
 have e1:a*b<=A*b:=Int.mul_le_mul_of_nonneg_right h2 h3;have e2:A*b<=A*B:=Int.mul_le_mul_of_nonneg_left h4 hA;have e3:-A*b<=a*b:=Int.mul_le_mul_of_nonneg_right h1 h3
 grind
structure Fil (H:Heap)(p q:Nat)(R C:Int)(g:G):Prop where
 fp:H.get p=some [.int .i64 R,.int .i64 C,.slice (some ⟨q,0,none⟩) g.cells.length g.cells.length,.int .i64 g.next]
 fq:H.get q=some (aW g.cells)
 ne:p≠q
structure Dim (R C:Int):Prop where
 r0:6<=R
 r1:R<=200
 c0:6<=C
 c1:C<=200
theorem ni{R C:Int}{g g':G}{r c b:Int}(h:(a0 R C).asg g r c b=some g'):-4000<=r/\r<=4000/\-4000<=c/\c<=4000/\0<=iE R C r c/\iE R C r c<g.cells.length/\0<=g.next/\g.next<=100000/\g'=⟨g.next,g.cells.set (iE R C r c).toNat (8*g.next+b)⟩:=by
 grind[a0,PA,inB]
theorem eM{a:Int}{m:Int}(h:0<=a)(hm:0<m):0<=a.tmod m/\a.tmod m<m:=⟨Int.tmod_nonneg m h,Int.tmod_lt_of_pos a hm⟩
theorem EA{p q:Nat}{R C:Int}{g g':G}{r c b:Int}(hd:Dim R C)(hf:Fil H p q R C g)(hlo:lo<=q)(hb:0<=b/\b<=7)(h:(a0 R C).asg g r c b=some g') :
  Ev cp lo 132 [.pointer (some ⟨p,0,none⟩),.int .i64 r,.int .i64 c,.int .i64 b] H (fun _ H'=>H'=H.set q (some (aW g'.cells))):=by
 obtain⟨b1,b2,b3,b4,b5,b6,b7,b8,rfl⟩:=ni h;obtain⟨r0,r1,c0,c1⟩:=hd;have fp:=hf.fp;have fq:=hf.fq;have m1:=eM (a:=R+4) (m:=8) byO byO;have m2:=eM (a:=C+4) (m:=8) byO byO;refine stG rfl rfl ?_;unfold Kv;simp only[kB];refine eG (fun S' H'=>H'=H/\S'=[.pointer (some ⟨p,0,none⟩),.int .i64 (if r<0 then r+R else r),.int .i64 (if r<0 then c+(4-(R+4).tmod 8) else c),.int .i64 b]) ?_ ?_
 ·refine aP ?_ ?_<;>intro h
  ·refine aA ?_
   simp_all
  simp_all[aD,if_neg]
 rintro S' H' ⟨rfl,rfl⟩;(try simp );generalize hr1:(if r<0 then r+R else r)=ra;generalize hc1:(if r<0 then c+(4-(R+4).tmod 8) else c)=ca;refine eG (fun S' H''=>H''=H'/\S'=[.pointer (some ⟨p,0,none⟩),.int .i64 (if ca<0 then ra+(4-(C+4).tmod 8) else ra),.int .i64 (if ca<0 then ca+C else ca),.int .i64 b]) ?_ ?_
 ·refine aP ?_ ?_<;>intro h
  ·refine aA ?_
   simp_all
  simp_all[aD,if_neg]
 rintro S' H'' ⟨rfl,rfl⟩;have hi:(if ca<0 then ra+(4-(C+4).tmod 8) else ra)*C+(if ca<0 then ca+C else ca)=iE R C r c:=by subst hr1 hc1;rfl
 generalize hr2:(if ca<0 then ra+(4-(C+4).tmod 8) else ra)=rb at *;have hm:=dV (a:=rb) (b:=C) (A:=5000) (B:=200) byO byO byO c1 byO;refine aA ?_;rfl
theorem FW{p q:Nat}{R C:Int}{g:G}{r c:Int}(hd:Dim R C)(hf:Fil H p q R C g)(hn:(g.cells.length:Int)=R*C) :
  Ev cp lo 134 [.pointer (some ⟨p,0,none⟩),.int .i64 r,.int .i64 c] H (fun v H'=>H'=H/\v=.bool ((a0 R C).free g r c)):=by
 obtain⟨r0,r1,c0,c1⟩:=hd;have fp:=hf.fp;have fq:=hf.fq;refine stG rfl rfl ?_;unfold Kx;simp only[kB,aD];refine aA ?_;simp only[a0];by_cases h1:0<=r
 ·by_cases h2:r<R
  ·by_cases h3:0<=c
   ·by_cases h4:c<C
    ·have hi:=vZ h1 h2 h3 h4
     have hm:=dV (a:=r) (b:=C) (A:=200) (B:=200) byO byO byO c1 byO;have hx:(r*C+c).toNat<g.cells.length:=byO;refine aA ?_;refine aK ?_;refine⟨rfl,?_⟩;simp[aM,h1,h2,h3,h4]
    ·refine aA ?_
     refine aK ?_;refine⟨rfl,?_⟩;simp[aM,h1,h2,h3,h4]
   ·refine aA ?_
    refine aK ?_;refine⟨rfl,?_⟩;simp[aM,h1,h2,h3]
  ·refine aA ?_
   refine aK ?_;refine⟨rfl,?_⟩;simp[aM,h1,h2]
 ·refine aA ?_
  refine aK ?_;refine⟨rfl,?_⟩;simp[aM,h1]
structure Ch (p q:Nat)(H H':Heap):Prop where
 len:H.length<=H'.length
 get:∀i,i<H.length->i≠p->i≠q->H'.get i=H.get i
theorem Ch.refl{p q:Nat}(H:Heap):Ch p q H H:=⟨Nat.le_refl _,fun _ _ _ _=>rfl⟩
theorem Ch.trans{p q:Nat}{A B C:Heap}(h:Ch p q A B)(k:Ch p q B C):Ch p q A C:=⟨Nat.le_trans h.len k.len,fun i hi h1 h2=>(k.get i (bd₀ hi h.len) h1 h2).trans (h.get i hi h1 h2)⟩
theorem Ch.app{p q:Nat}(H L:Heap):Ch p q H (H++L):=⟨by simp,fun _ h _ _=>aV h⟩
theorem Ch.setq{p q:Nat}(H:Heap)(x:Option (List Value)):Ch p q H (H.set q x):=⟨by simp,fun i _ _ h=>aI (fun e=>h e.symm)⟩
theorem Ch.setp{p q:Nat}(H:Heap)(x:Option (List Value)):Ch p q H (H.set p x):=⟨by simp,fun i _ h _=>aI (fun e=>h e.symm)⟩
def dH(l:List (Int×Int)):List Value:=l.flatMap fun p=>[.int .i64 p.1,.int .i64 p.2]
theorem G6(l:List (Int×Int)):∀(k:Nat),k<l.length->((dH l).drop (k*2)).take 2=[.int .i64 (l.getD k (0,0)).1,.int .i64 (l.getD k (0,0)).2]:=by
 induction l with
 | nil=>simp_all
 | cons s l ih=>
  intro i h;cases i with
  | zero=>simp[dH]
  | succ i=>
   grind[dH]
theorem ua(l:List (Int×Int)):(dH l).length=l.length*2:=by
 induction l with
 | nil=>rfl
 | cons s l ih=>grind[dH]
theorem DV{l:List (Int×Int)}{k:Nat}(h:k<l.length):(dH l).toArray.extract (k*2) (k*2+2)=#[.int .i64 (l.getD k (0,0)).1,.int .i64 (l.getD k (0,0)).2]:=by
 grind[G6]
theorem lN{l:List (Int×Int)}{k:Nat}(h:k<l.length):l.drop k=l.getD k (0,0)::l.drop (k+1):=by
 simp_all
theorem vD{R C:Int}{g g':G}{r c b:Int}(h:(a0 R C).asg g r c b=some g'):g'.cells.length=g.cells.length/\g'.next=g.next:=by
 obtain⟨_,_,_,_,_,_,_,_,rfl⟩:=ni h;simp
theorem Fil.mono{H H':Heap}{p q:Nat}{R C:Int}{g:G}(h:Fil H p q R C g)(e:Ext H H'):Fil H' p q R C g:=⟨e.get h.fp,e.get h.fq,h.ne⟩
theorem Fil.setq{H:Heap}{p q:Nat}{R C:Int}{g g':G}(h:Fil H p q R C g)(hl:g'.cells.length=g.cells.length)(hn:g'.next=g.next):Fil (H.set q (some (aW g'.cells))) p q R C g':=
 ⟨by grind[aI,ne,fp],by grind[aG,Heap.get_lt,fq],h.ne⟩
theorem qi{R C:Int}:∀{l:List (Int×Int)} {g g':G} {b:Int},goG (a0 R C) g l b=some g'->g'.cells.length=g.cells.length/\g'.next=g.next/\(l≠[]->0<=g.next/\g.next<=100000)
 | [],g,g',b,h=>by grind[goG]
 | p::l,g,g',b,h=>by
  simp only[goG]at h;split at h
  ·rename_i g1 h1
   have h2:=vD h1;have h3:=ni h1;obtain⟨e1,e2,_⟩:=qi h;omega
  ·simp at h
theorem N4{p q:Nat}{R C:Int}{g g':G}{l:List (Int×Int)}(hl8:l.length=8)(hd:Dim R C)(hf:Fil H p q R C g)(hlp:lo<=p)(hlo:lo<=q)(h:jU (a0 R C) g l=some g') :
  Ev cp lo 180 [.pointer (some ⟨p,0,none⟩),.agg (dH l).toArray,.func (.func 132) #[.pointer (some ⟨p,0,none⟩)] #[]] H (fun _ H'=>Fil H' p q R C g'/\Ch p q H H'):=by
 unfold jU at h;split at h
 ·rename_i g2 hg
  cases h;have hpl:=Heap.get_lt hf.fp;have hpv:=ua l;rw[hl8]at hpv;refine stG rfl rfl ?_;unfold LY;simp only[kB];refine aA ?_;refine aY (fun m S H'=>∃(k:Nat) (x y z w:Value) (g1:G),k<=8/\m=8-k/\S=[.pointer (some ⟨p,0,none⟩),.agg (dH l).toArray,.func (.func 132) #[.pointer (some ⟨p,0,none⟩)] #[],.pointer (some ⟨H.length,0,none⟩),x,y,.agg (dH l).toArray,.int .i64 k,z,w]/\Fil H' p q R C g1/\Ch p q H H'/\goG (a0 R C) g1 (l.drop k) k=some g2) 8 ?_ ?_
  ·exact⟨0,_,_,_,_,g,byO,byO,by rw[List.take_of_length_le byO];rfl,hf.mono (Ext.app _ _),Ch.app _ _,by simp_all⟩
  rintro m S H1 ⟨k,x,y,z,w,g1,hk,rfl,rfl,hf1,hch,hgo⟩;have hlen1:=hch.len;(try simp only[aD]);refine aP ?_ ?_<;>intro h
  ·have hk8:k<8:=by grind
   have he:=DV (l:=l) (k:=k) byO;have hsz:(dH l).toArray.size=16:=by simp[hpv]
   rw[lN byO]at hgo;simp only[goG]at hgo;split at hgo
   ·rename_i g3 ha
    refine aA ?_;refine aT ?_;refine aC (EA (q:=q) hd (hf1.mono (Ext.app _ _)) hlo byO ha) ?_;rintro v H2 rfl;refine aA ?_;have hlq:=vD ha;refine⟨8-(k+1),byO,k+1,_,_,_,_,g3,byO,rfl,by rfl,(hf1.mono (Ext.app _ _)).setq hlq.1 hlq.2,(hch.trans (Ch.app _ _)).trans (Ch.setq _ _),by simp_all⟩
   simp_all
  ·have hk8:k=8:=by grind
   rw[List.drop_of_length_le byO]at hgo;cases hgo;have fp:=hf1.fp;have hplen:=Heap.get_lt fp;have hnx:=qi hg;have hnb:=hnx.2.2 (by grind);rw[<-hnx.2.1]at hnb;clear hnx;refine aA ?_;refine⟨⟨by rw[aG hplen];rfl,by rw[aI hf1.ne];exact hf1.fq,hf1.ne⟩,hch.trans (Ch.setp _ _)⟩
 ·simp at h
theorem oH{p q:Nat}{R C:Int}{g g':G}{arr:Array Value}(l:List (Int×Int))(ha:arr=(dH l).toArray)(hl8:l.length=8)(hd:Dim R C)(hf:Fil H p q R C g)(hlp:lo<=p)(hlo:lo<=q)(h:jU (a0 R C) g l=some g') :
  Ev cp lo 180 [.pointer (some ⟨p,0,none⟩),.agg arr,.func (.func 132) #[.pointer (some ⟨p,0,none⟩)] #[]] H (fun _ H'=>Fil H' p q R C g'/\Ch p q H H'):=by
 grind[N4]
theorem eT{r c:Int}(h:inB r c=true):-4000<=r/\r<=4000/\-4000<=c/\c<=4000:=by
 grind[inB]
theorem Bx{p q:Nat}{R C:Int}{g g':G}{r c:Int}(hb:inB r c=true)(hd:Dim R C)(hf:Fil H p q R C g)(hlp:lo<=p)(hlo:lo<=q)(h:jU (a0 R C) g (pl r c)=some g') :
  Ev cp lo 135 [.pointer (some ⟨p,0,none⟩),.int .i64 r,.int .i64 c,.func (.func 132) #[.pointer (some ⟨p,0,none⟩)] #[]] H (fun _ H'=>Fil H' p q R C g'/\Ch p q H H'):=by
 obtain⟨b1,b2,b3,b4⟩:=eT hb;refine stG rfl rfl ?_;unfold Ky;simp only[kB];refine aT ?_;refine aC (oH (pl r c) (by rfl) rfl hd hf hlp hlo h) ?_
 simp_all[dR,evB]
set_option maxHeartbeats 4000000 in
theorem Ci{p q:Nat}{R C:Int}{g g':G}{r c:Int}(hd:Dim R C)(hf:Fil H p q R C g)(hlp:lo<=p)(hlo:lo<=q)(h:fF (a0 R C) R C g r c=some g') :
  Ev cp lo 133 [.pointer (some ⟨p,0,none⟩),.int .i64 r,.int .i64 c,.func (.func 132) #[.pointer (some ⟨p,0,none⟩)] #[]] H (fun _ H'=>Fil H' p q R C g'/\Ch p q H H'):=by
 have hd':=hd;obtain⟨r0,r1,c0,c1⟩:=hd';have fp:=hf.fp;unfold fF at h;split at h
 ·simp at h
 rename_i ga ha;split at h
 ·simp at h
 rename_i gb hb;split at h
 ·simp at h
 rename_i gc hc;have hlast:=h;clear h;refine stG rfl rfl ?_;unfold Kw;simp only[kB,aD];refine aA ?_;clear fp;refine eG (fun S' H'=>S'=[.pointer (some ⟨p,0,none⟩),.int .i64 r,.int .i64 c,.func (.func 132) #[.pointer (some ⟨p,0,none⟩)] #[],.int .i64 R,.int .i64 C]/\Fil H' p q R C ga/\Ch p q H H') ?_ ?_
 ·refine aP ?_ ?_<;>intro h
  ·have e:k1 R r c=true:=h
   rw[e]at ha;refine bF ?_;refine aC (oH (YtmnlgdpdgjbfgaaGreat.c1 R C) (by rfl) rfl hd hf hlp hlo ha) ?_
   simp_all[aD]
  ·have e:k1 R r c=false:=h
   rw[e]at ha;cases ha
   simp_all[aD,Ch.refl]
 rintro S' H1 ⟨rfl,hf1,hc1⟩;(try simp only[aD]);refine eG (fun S' H'=>S'=[.pointer (some ⟨p,0,none⟩),.int .i64 r,.int .i64 c,.func (.func 132) #[.pointer (some ⟨p,0,none⟩)] #[],.int .i64 R,.int .i64 C]/\Fil H' p q R C gb/\Ch p q H H') ?_ ?_
 ·refine aP ?_ ?_<;>intro h
  ·have e:k2 R C r c=true:=h
   rw[e]at hb;refine bF ?_;refine aC (oH (YtmnlgdpdgjbfgaaGreat.c2 R C) (by rfl) rfl hd hf1 hlp hlo hb) ?_;rintro v H2 hh;(try simp only[aD])
   grind[Ch.trans]
  ·have e:k2 R C r c=false:=h
   rw[e]at hb;cases hb
   simp_all[aD]
 rintro S' H2 ⟨rfl,hf2,hc2⟩;(try simp only[aD]);refine eG (fun S' H'=>S'=[.pointer (some ⟨p,0,none⟩),.int .i64 r,.int .i64 c,.func (.func 132) #[.pointer (some ⟨p,0,none⟩)] #[],.int .i64 R,.int .i64 C]/\Fil H' p q R C gc/\Ch p q H H') ?_ ?_
 ·refine aP ?_ ?_<;>intro h
  ·have e:k3 R C r c=true:=h
   rw[e]at hc;refine bF ?_;refine aC (oH (YtmnlgdpdgjbfgaaGreat.c3 R C) (by rfl) rfl hd hf2 hlp hlo hc) ?_;(try simp only[aD])
   grind[Ch.trans]
  ·have e:k3 R C r c=false:=h
   rw[e]at hc;cases hc
   simp_all[aD]
 rintro S' H3 ⟨rfl,hf3,hc3⟩;(try simp );refine aP ?_ ?_<;>intro h
 ·have e:k4 R C r c=true:=h
  rw[e]at hlast;refine bF ?_;refine aC (oH (YtmnlgdpdgjbfgaaGreat.c4 R C) (by rfl) rfl hd hf3 hlp hlo hlast) ?_;rintro v H2 hh;(try simp );refine dR (by rfl) ?_
  grind[Ch.trans]
 ·have e:k4 R C r c=false:=h
  rw[e]at hlast;cases hlast
  simp_all[aD,dR,evB]
theorem Dv{n:Int}(h0:0<=n)(h1:n<4294967296):((BitVec.ofInt 64 n &&& BitVec.ofInt 64 4294967295).toNat:Int)=n:=by
 obtain⟨m,rfl⟩:∃m:Nat,n=m:=⟨n.toNat,byO⟩;have e:(BitVec.ofInt 64 (m:Int)).toNat=m:=by simp[BitVec.toNat_ofInt];omega
 rw[BitVec.toNat_and,e];have e2:(BitVec.ofInt 64 4294967295).toNat=2^32-1:=by decide
 rw[e2,Nat.and_two_pow_sub_one_eq_mod];omega
theorem Re{n:Int}(h0:0<=n)(h1:n<4294967296):Ev cp lo 201 [.int .u64 1,.int .u64 n] H (fun v H'=>H'=H/\v=.tuple #[.int .u64 0,.int .u64 n]):=by
 have e1:IntKind.u64.wrap ((BitVec.ofInt IntKind.u64.bits 1 &&& BitVec.ofInt IntKind.u64.bits 4294967295).toNat:Int)=1:=by decide
 have e2:IntKind.u64.wrap ((BitVec.ofInt IntKind.u64.bits n &&& BitVec.ofInt IntKind.u64.bits 4294967295).toNat:Int)=n:=by
  rw[show IntKind.u64.bits=64 from rfl,Dv h0 h1];exact zF h0 byO
 have e3:IntKind.u64.wrap ((BitVec.ofInt IntKind.u64.bits 0 &&& BitVec.ofInt IntKind.u64.bits 4294967295).toNat:Int)=0:=by decide
 have e4:Int.fdiv 1 (2^(min (Int.toNat 32) IntKind.u64.bits))=0:=by decide
 have e5:Int.fdiv n (2^(min (Int.toNat 32) IntKind.u64.bits))=0:=by
  rw[show(2:Int)^(min (Int.toNat 32) IntKind.u64.bits)=4294967296 by decide,Int.fdiv_eq_ediv_of_nonneg _ byO];omega
 have e6:Int.fdiv 0 (2^(min (Int.toNat 32) IntKind.u64.bits))=0:=by decide
 refine stG rfl rfl ?_;unfold Le;simp only[kB,aD];refine eP ?_;have e7:IntKind.u64.wrap 0=0:=by decide
 simp only[e1,e2,e3,e4,e5,e6,e7,Int.zero_mul,Int.one_mul,Int.mul_zero,Int.zero_add,Int.add_zero];refine qY ?_;exact⟨rfl,rfl⟩
theorem Rd{n:Int}(h0:0<=n)(h1:n<4294967296):Ev cp lo 179 [.int .u64 1,.int .u64 n] H (fun v H'=>H'=H/\v=.tuple #[.int .u64 0,.int .u64 n]):=by
 refine stG rfl rfl ?_;unfold LX;simp only[kB,aD];refine eP ?_;refine Ti ?_;refine n9 ?_;refine aC (Re h0 h1) ?_;rintro v H1 ⟨rfl,rfl⟩;refine eP ?_;refine qY ?_;exact⟨rfl,rfl⟩
theorem Gp{n:Int}(h0:1<=n)(h1:n<1000000)(hlo:lo<=H.length)(hg:H.get i=some [.int .i64 (-1)]) :
  Ev cp lo 131 [.slice (some ⟨i,0,none⟩) 1 1,.int .i64 n] H (fun v H'=>Ext H H'/\v=.slice (some ⟨H.length,0,none⟩) n.toNat n.toNat/\H'.get H.length=some (aW (List.replicate n.toNat (-1)))):=by
 have hil:=Heap.get_lt hg;have hg':H.get i=some (aW [-1]):=hg;clear hg;refine stG rfl rfl ?_;unfold Ku;simp only[kB,aD];refine eP ?_;refine mh ?_ ?_<;>intro h
 ·simp at h;omega
 clear h;refine n9 ?_;refine aC (Rd (n:=n) byO byO) ?_;rintro v H1 ⟨rfl,rfl⟩;refine eP ?_;refine mh ?_ ?_<;>intro h
 ·simp at h;omega
 clear h;(try simp only[aD]);obtain⟨N,rfl⟩:∃N:Nat,n=N:=⟨n.toNat,byO⟩;have hN:1<=N:=byO;have hm1:min 1 N=1:=byO;have hm2:(aW (List.replicate N 0)).length=N:=by simp[aW]
 have hm3:(List.replicate N (0:Int)).length=N:=by simp
 refine eP ?_;refine aY (fun m S H'=>∃(k:Nat) (a b x y:Value),1<=k/\k<=N/\m=N-k/\S=[.slice (some ⟨i,0,none⟩) 1 1,.int .i64 N,.slice none 0 0,.int .u64 0,.int .u64 N,.slice (some ⟨H1.length,0,none⟩) N N,.int .i64 k,a,b,.int .i64 1,x,y]/\H'=H1++[some (aW (List.replicate k (-1)++List.replicate (N-k) 0))]) (N-1) ?_ ?_
 ·refine⟨1,_,_,_,_,byO,byO,rfl,rfl,?_⟩
  congr 2;rw[jE];congr 1;simp
 rintro m S H2 ⟨k,xa,xb,x,y,hk1,hk2,rfl,rfl,rfl⟩;(try simp only[aD]);refine mh ?_ ?_<;>intro h
 ·have hk:k<N:=by simp at h;omega
  clear h;have hl:(List.replicate k (-1)++List.replicate (N-k) (0:Int)).length=N:=by simp;omega
  generalize hmn:min k (N-k)=w;have hw:w<=k/\w<=N-k/\1<=w:=byO;refine eP ?_;simp only[ak];refine⟨N-(k+w),byO,k+w,_,_,_,_,byO,byO,rfl,by simp only[ap₀];rfl,?_⟩;congr 4;have e1:List.take k (List.replicate k (-1)++List.replicate (N-k) (0:Int))=List.replicate k (-1):=by simp
  have e2:List.take w (List.replicate k (-1)++List.replicate (N-k) (0:Int))=List.replicate w (-1):=by
   rw[List.take_append_of_le_length (by simp;omega),List.take_replicate,Nat.min_eq_left hw.1]
  have e3:List.drop (k+min w N) (List.replicate k (-1)++List.replicate (N-k) (0:Int))=List.replicate (N-(k+w)) 0:=by
   rw[Nat.min_eq_left byO,List.drop_append,List.drop_of_length_le (by simp)];simp;omega
  rw[e1,e2,e3,<-ba₀,List.replicate_append_replicate]
 ·have hk:k=N:=by simp at h;omega
  subst hk;clear h;refine eP ?_;refine qY ?_;refine⟨Ext.app _ _,rfl,?_⟩;simp(disch:=try exact dO)only[evB,xtr, *];simp
theorem xd{R C:Int}{g g':G}{l:List (Int×Int)}(h:jU (a0 R C) g l=some g'):g'.cells.length=g.cells.length:=by
 unfold jU at h;split at h
 ·rename_i g1 h1;cases h;exact(qi h1).1
 ·simp at h
theorem gZ{R C:Int}{g g':G}{r c:Int}(h:kF (a0 R C) g r c=some g'):g'.cells.length=g.cells.length:=by
 unfold kF at h;split at h
 ·exact xd h
 ·cases h;rfl
theorem qf{R C:Int}{b:Bool}{g g':G}{l:List (Int×Int)}(h:kV (a0 R C) b g l=some g'):g'.cells.length=g.cells.length:=by
 unfold kV at h;split at h
 ·exact xd h
 ·cases h;rfl
theorem qE{R C:Int}{g g':G}{r c:Int}(h:fF (a0 R C) R C g r c=some g'):g'.cells.length=g.cells.length:=by
 unfold fF at h;split at h
 ·simp at h
 rename_i ga ha;split at h
 ·simp at h
 rename_i gb hb;split at h
 ·simp at h
 rename_i gc hc;rw[qf h,qf hc,qf hb,qf ha]
theorem Am{R C:Int}:∀{k:Nat} {g g':G} {r c r' c':Int},upG (a0 R C) C k g r c=some (g',r',c')->g'.cells.length=g.cells.length/\-4002<=r'/\r'<=4002/\-4002<=c'/\c'<=4002
 | 0,_,_,_,_,_,_,h=>by simp[upG]at h
 | k+1,g,g',r,c,r',c',h=>by
  simp only[upG,lB]at h;split at h
  ·rename_i hb
   have hb:=eT hb;split at h
   ·simp at h
   rename_i g1 h1;split at h
   ·have:=Am h;rw[gZ h1]at this;exact this
   ·cases h;exact⟨gZ h1,byO,byO,byO,byO⟩
  ·simp at h
theorem rR{R C:Int}:∀{k:Nat} {g g':G} {r c r' c':Int},gd (a0 R C) R k g r c=some (g',r',c')->g'.cells.length=g.cells.length/\-4002<=r'/\r'<=4002/\-4002<=c'/\c'<=4002
 | 0,_,_,_,_,_,_,h=>by simp[gd]at h
 | k+1,g,g',r,c,r',c',h=>by
  simp only[gd,lB]at h;split at h
  ·rename_i hb
   have hb:=eT hb;split at h
   ·simp at h
   rename_i g1 h1;split at h
   ·have:=rR h;rw[gZ h1]at this;exact this
   ·cases h;exact⟨gZ h1,byO,byO,byO,byO⟩
  ·simp at h
set_option maxHeartbeats 4000000 in
theorem Jc{R C:Int}{gf:G}(hd:Dim R C)(hlo:lo<=H.length)(h:AT R C=some gf) :
  Ev cp lo 78 [.int .i64 R,.int .i64 C] H (fun v H'=>Ext H H'/\∃q,H.length<=q/\v=.slice (some ⟨q,0,none⟩) gf.cells.length gf.cells.length/\H'.get q=some (aW gf.cells)):=by
 have hd':=hd;obtain⟨r0,r1,c0,c1⟩:=hd';have hm:=dV (a:=R) (b:=C) (A:=200) (B:=200) byO byO byO c1 byO;have hm1:6*C<=R*C:=Int.mul_le_mul_of_nonneg_right r0 byO;refine stG rfl rfl ?_;unfold Qe;simp only[kB,aD];refine eP ?_;refine Pm ?_;refine aC (Gp (lo:=lo) (H:=H++[some [Value.int .i64 (-1)]]) (n:=R*C) (i:=H.length) byO byO (by simp;omega) KZ) ?_;rintro v H1 ⟨hx,rfl,hq⟩;have hx0:=hx.of_app;have hl1:=hx.1;simp only[as₀,ak₀,an₀]at hq hl1;generalize hqq:H.length+(0+1)=q at *;have hql:=Heap.get_lt hq;refine eP ?_;have hf:Fil (H1++[some [.int .i64 R,.int .i64 C,.slice (some ⟨q,0,none⟩) (R*C).toNat (R*C).toNat,.int .i64 0]]) H1.length q R C ⟨0,List.replicate (R*C).toNat (-1)⟩:=by
  refine⟨?_,?_,byO⟩
  ·rw[aF];simp
  ·rw[aV hql];exact hq
 generalize hp:H1.length=p at *;unfold AT at h;generalize hg0:(⟨0,List.replicate (R*C).toNat (-1)⟩:G)=g0 at *;have hlen0:(g0.cells.length:Int)=R*C:=by rw[<-hg0];simp;omega
 generalize hH2:H1++[some [.int .i64 R,.int .i64 C,.slice (some ⟨q,0,none⟩) (R*C).toNat (R*C).toNat,.int .i64 0]]=H2 at *;have hch0:∀i,i<H.length->H2.get i=H.get i:=by
  intro i hi;rw[<-hH2,aV byO];exact hx0.2 i hi
 have hl2:H1.length<=H2.length:=by rw[<-hH2];simp
 have hlp:lo<=p:=byO;have hlq:lo<=q:=byO;have hHp:H.length<=p:=byO;have hHq:H.length<=q:=byO;generalize hy12:Value.slice (some ⟨H.length,0,none⟩) 1 1=y12;generalize hy13:Value.slice (some ⟨q,0,none⟩) (R*C).toNat (R*C).toNat=y13;refine aY (fun m S H'=>∃(t:Bool) (r c:Int) (g:G) (a8 a9 a15 a16:Value),S=[.int .i64 R,.int .i64 C,.slice none 0 0,.pointer (some ⟨p,0,none⟩),.func (.func 132) #[.pointer (some ⟨p,0,none⟩)] #[],.int .i64 r,.int .i64 c,.bool t,a8,a9,.int .i64 R,.int .i64 C,y12,y13,.pointer (some ⟨p,0,none⟩),a15,a16]/\Fil H' p q R C g/\(g.cells.length:Int)=R*C/\(∀i,i<H.length->H'.get i=H.get i)/\H.length<=H'.length /\
  ((t=true/\∃k,m=k+1/\pW (a0 R C) R C k g r c=some gf)\/(t=false/\m=0/\g=gf))) 201 ?_ ?_
 ·exact⟨true,4,0,g0,_,_,_,_,rfl,hf,hlen0,hch0,byO,.inl ⟨rfl,200,rfl,h⟩⟩
 rintro m S H3 ⟨t,r,c,g,a8,a9,a15,a16,rfl,hf3,hlen3,hch3,hl3,hcase⟩;(try simp only[aD]);refine mh ?_ ?_<;>intro h
 ·subst h
  rcases hcase with ⟨_,k,rfl,hout⟩|⟨e,_⟩;rotate_left
  ·cases e
  cases k with
  | zero=>simp[pW]at hout
  | succ k=>
  simp only[pW,lB]at hout;split at hout;rotate_left
  ·simp at hout
  rename_i hinB;have hb:=eT hinB;split at hout
  ·simp at hout
  rename_i g4 hg4;split at hout
  ·simp at hout
  rename_i g5 ra ca hg5;split at hout
  ·simp at hout
  rename_i g6 rb cb hg6;have bl5:=Am hg5;have bl6:=rR hg6;have bl4:=qE hg4;refine n9 ?_;refine aC (Ci hd hf3 hlp hlq hg4) ?_;rintro v H4 ⟨hf4,hc4⟩;refine eP ?_;have hlen4:(g4.cells.length:Int)=R*C:=by rw[bl4];exact hlen3
  have hch4:∀i,i<H.length->H4.get i=H.get i:=fun i hi=>by rw[hc4.get i byO byO byO];exact hch3 i hi
  have hl4:H.length<=H4.length:=Nat.le_trans hl3 hc4.len;refine Au (fun S H'=>∃(a8 a9 a15 a16:Value),S=[.int .i64 R,.int .i64 C,.slice none 0 0,.pointer (some ⟨p,0,none⟩),.func (.func 132) #[.pointer (some ⟨p,0,none⟩)] #[],.int .i64 ra,.int .i64 ca,.bool true,a8,a9,.int .i64 R,.int .i64 C,y12,y13,.pointer (some ⟨p,0,none⟩),a15,a16]/\Fil H' p q R C g5/\(∀i,i<H.length->H'.get i=H.get i)/\H.length<=H'.length) ?_ ?_
  ·(try simp only[aD])
   refine aY (fun m S H'=>∃(t:Bool) (r c:Int) (g:G) (a9 a15 a16:Value),S=[.int .i64 R,.int .i64 C,.slice none 0 0,.pointer (some ⟨p,0,none⟩),.func (.func 132) #[.pointer (some ⟨p,0,none⟩)] #[],.int .i64 r,.int .i64 c,.bool true,.bool t,a9,.int .i64 R,.int .i64 C,y12,y13,.pointer (some ⟨p,0,none⟩),a15,a16]/\Fil H' p q R C g/\(g.cells.length:Int)=R*C/\(∀i,i<H.length->H'.get i=H.get i)/\H.length<=H'.length /\
    ((t=true/\∃k,m=k+1/\upG (a0 R C) C k g r c=some (g5,ra,ca))\/(t=false/\m=0/\g=g5/\r=ra/\c=ca))) 201 ?_ ?_
   ·exact⟨true,r,c,g4,_,_,_,rfl,hf4,hlen4,hch4,hl4,.inl ⟨rfl,200,rfl,hg5⟩⟩
   rintro m S H5 ⟨t,r,c,g,a9,a15,a16,rfl,hf5,hlen5,hch5,hl5,hcase⟩;(try simp only[aD]);refine mh ?_ ?_<;>intro h
   ·subst h
    rcases hcase with ⟨_,k,rfl,hup⟩|⟨e,_⟩;rotate_left
    ·cases e
    cases k with
    | zero=>simp[upG]at hup
    | succ k=>
    simp only[upG,lB]at hup;split at hup;rotate_left
    ·simp at hup
    rename_i hinB;have hb:=eT hinB;split at hup
    ·simp at hup
    rename_i g7 hg7;have hlen7:(g7.cells.length:Int)=R*C:=by rw[gZ hg7];exact hlen5
    refine n9 ?_;refine aC (FW hd hf5 hlen5) ?_;rintro v H6 ⟨rfl,rfl⟩;(try simp only[aD]);refine eG (fun S H'=>∃(a9 a15 a16:Value),S=[.int .i64 R,.int .i64 C,.slice none 0 0,.pointer (some ⟨p,0,none⟩),.func (.func 132) #[.pointer (some ⟨p,0,none⟩)] #[],.int .i64 r,.int .i64 c,.bool true,.bool true,a9,.int .i64 R,.int .i64 C,y12,y13,.pointer (some ⟨p,0,none⟩),a15,a16]/\Fil H' p q R C g7/\(∀i,i<H.length->H'.get i=H.get i)/\H.length<=H'.length) ?_ ?_
    ·refine mh ?_ ?_<;>intro h
     ·simp only[kF,h,if_true]at hg7
      refine n9 ?_;refine aC (Bx hinB hd hf5 hlp hlq hg7) ?_;rintro v H7 ⟨hf7,hc7⟩;(try simp only[aD]);exact⟨_,_,_,rfl,hf7,fun i hi=>by rw[hc7.get i byO byO byO];exact hch5 i hi,Nat.le_trans hl5 hc7.len⟩
     ·simp only[kF,h]at hg7
      cases hg7;(try simp only[aD]);exact⟨_,_,_,rfl,hf5,hch5,hl5⟩
    rintro S H7 ⟨b9,b15,b16,rfl,hf7,hch7,hl7⟩;refine eP ?_;simp only[ak];split at hup
    ·rename_i hcond
     refine⟨k+1,byO,_,r-2,c+2,g7,_,_,_,rfl,hf7,hlen7,hch7,hl7,.inl ⟨by simp;omega,k,rfl,hup⟩⟩
    ·rename_i hcond
     simp only[ab₀,ad₀]at hup;refine⟨0,byO,_,r-2,c+2,g7,_,_,_,rfl,hf7,hlen7,hch7,hl7,.inr ⟨by simp;omega,rfl,hup.1,hup.2.1,hup.2.2⟩⟩
   ·subst h
    rcases hcase with ⟨e,_⟩|⟨_,_,rfl,rfl,rfl⟩
    ·cases e
    (try simp only[aD]);exact⟨_,_,_,_,rfl,hf5,hch5,hl5⟩
  rintro S H5 ⟨b8,b9,b15,b16,rfl,hf5,hch5,hl5⟩;refine eP ?_;have hlen5:(g5.cells.length:Int)=R*C:=by rw[bl5.1];exact hlen4
  refine Au (fun S H'=>∃(a8 a9 a15 a16:Value),S=[.int .i64 R,.int .i64 C,.slice none 0 0,.pointer (some ⟨p,0,none⟩),.func (.func 132) #[.pointer (some ⟨p,0,none⟩)] #[],.int .i64 rb,.int .i64 cb,.bool true,a8,a9,.int .i64 R,.int .i64 C,y12,y13,.pointer (some ⟨p,0,none⟩),a15,a16]/\Fil H' p q R C g6/\(∀i,i<H.length->H'.get i=H.get i)/\H.length<=H'.length) ?_ ?_
  ·(try simp only[aD])
   refine aY (fun m S H'=>∃(t:Bool) (r c:Int) (g:G) (a8 a15 a16:Value),S=[.int .i64 R,.int .i64 C,.slice none 0 0,.pointer (some ⟨p,0,none⟩),.func (.func 132) #[.pointer (some ⟨p,0,none⟩)] #[],.int .i64 r,.int .i64 c,.bool true,a8,.bool t,.int .i64 R,.int .i64 C,y12,y13,.pointer (some ⟨p,0,none⟩),a15,a16]/\Fil H' p q R C g/\(g.cells.length:Int)=R*C/\(∀i,i<H.length->H'.get i=H.get i)/\H.length<=H'.length /\
    ((t=true/\∃k,m=k+1/\gd (a0 R C) R k g r c=some (g6,rb,cb))\/(t=false/\m=0/\g=g6/\r=rb/\c=cb))) 201 ?_ ?_
   ·exact⟨true,ra+1,ca+3,g5,_,_,_,rfl,hf5,hlen5,hch5,hl5,.inl ⟨rfl,200,rfl,hg6⟩⟩
   rintro m S H6 ⟨t,r,c,g,a8,a15,a16,rfl,hf6,hlen6,hch6,hl6,hcase⟩;(try simp only[aD]);refine mh ?_ ?_<;>intro h
   ·subst h
    rcases hcase with ⟨_,k,rfl,hup⟩|⟨e,_⟩;rotate_left
    ·cases e
    cases k with
    | zero=>simp[gd]at hup
    | succ k=>
    simp only[gd,lB]at hup;split at hup;rotate_left
    ·simp at hup
    rename_i hinB;have hb:=eT hinB;split at hup
    ·simp at hup
    rename_i g7 hg7;have hlen7:(g7.cells.length:Int)=R*C:=by rw[gZ hg7];exact hlen6
    refine n9 ?_;refine aC (FW hd hf6 hlen6) ?_;rintro v H7 ⟨rfl,rfl⟩;(try simp only[aD]);refine eG (fun S H'=>∃(a8 a15 a16:Value),S=[.int .i64 R,.int .i64 C,.slice none 0 0,.pointer (some ⟨p,0,none⟩),.func (.func 132) #[.pointer (some ⟨p,0,none⟩)] #[],.int .i64 r,.int .i64 c,.bool true,a8,.bool true,.int .i64 R,.int .i64 C,y12,y13,.pointer (some ⟨p,0,none⟩),a15,a16]/\Fil H' p q R C g7/\(∀i,i<H.length->H'.get i=H.get i)/\H.length<=H'.length) ?_ ?_
    ·refine mh ?_ ?_<;>intro h
     ·simp only[kF,h,if_true]at hg7
      refine n9 ?_;refine aC (Bx hinB hd hf6 hlp hlq hg7) ?_;rintro v H8 ⟨hf8,hc8⟩;(try simp only[aD]);exact⟨_,_,_,rfl,hf8,fun i hi=>by rw[hc8.get i byO byO byO];exact hch6 i hi,Nat.le_trans hl6 hc8.len⟩
     ·simp only[kF,h]at hg7
      cases hg7;(try simp only[aD]);exact⟨_,_,_,rfl,hf6,hch6,hl6⟩
    rintro S H8 ⟨b9,b15,b16,rfl,hf8,hch8,hl8⟩;refine eP ?_;simp only[ak];split at hup
    ·rename_i hcond
     refine⟨k+1,byO,_,r+2,c-2,g7,_,_,_,rfl,hf8,hlen7,hch8,hl8,.inl ⟨by simp;omega,k,rfl,hup⟩⟩
    ·rename_i hcond
     simp only[ab₀,ad₀]at hup;refine⟨0,byO,_,r+2,c-2,g7,_,_,_,rfl,hf8,hlen7,hch8,hl8,.inr ⟨by simp;omega,rfl,hup.1,hup.2.1,hup.2.2⟩⟩
   ·subst h
    rcases hcase with ⟨e,_⟩|⟨_,_,rfl,rfl,rfl⟩
    ·cases e
    (try simp only[aD]);exact⟨_,_,_,_,rfl,hf6,hch6,hl6⟩
  rintro S H6 ⟨d8,d9,d15,d16,rfl,hf6,hch6,hl6⟩;refine eP ?_;simp only[ak];have hlen6:(g6.cells.length:Int)=R*C:=by rw[bl6.1];exact hlen5
  split at hout
  ·rename_i hcond
   refine⟨k+1,byO,_,rb+3,cb+1,g6,_,_,_,_,rfl,hf6,hlen6,hch6,hl6,.inl ⟨by simp;omega,k,rfl,hout⟩⟩
  ·rename_i hcond
   cases hout;refine⟨0,byO,_,rb+3,cb+1,gf,_,_,_,_,rfl,hf6,hlen6,hch6,hl6,.inr ⟨by simp;omega,rfl,rfl⟩⟩
 ·subst h
  rcases hcase with ⟨e,_⟩|⟨_,_,rfl⟩
  ·cases e
  have fp:=hf3.fp;refine eP ?_;refine qY ?_;exact⟨⟨hl3,hch3⟩,q,hHq,rfl,hf3.fq⟩
def fU(s:Sz):Int:=s.r.tdiv (s.rr+2)*s.rr
def eO(s:Sz):Int:=s.c.tdiv (s.rc+2)*s.rc
structure SzOK (s:Sz):Prop where
 r0:8<=s.r
 r1:s.r<=200
 c0:8<=s.c
 c1:s.c<=200
 rr0:6<=s.rr
 rr1:s.rr<=200
 rc0:6<=s.rc
 rc1:s.rc<=200
 d0:1<=s.d
 d1:s.d<=1600
 k0:1<=s.k
 k1:s.k<=1600
def HV(s:Sz):Bool:=decide (8<=s.r)&&decide (s.r<=200)&&decide (8<=s.c)&&decide (s.c<=200)&&decide (6<=s.rr)&&decide (s.rr<=200)&&decide (6<=s.rc)&&decide (s.rc<=200)&&decide (1<=s.d)&&decide (s.d<=1600)&&decide (1<=s.k)&&decide (s.k<=1600)
theorem KQ{s:Sz}(h:HV s=true):SzOK s:=by
 simp only[HV,ac₀,af₀]at h;obtain⟨⟨⟨⟨⟨⟨⟨⟨⟨⟨⟨a,b⟩,c⟩,d⟩,e⟩,f⟩,g⟩,i⟩,j⟩,k⟩,l⟩,m⟩:=h;exact⟨a,b,c,d,e,f,g,i,j,k,l,m⟩
theorem Ai:∀s ∈ szs,SzOK s:=fun s hs=>KQ (List.all_eq_true.1 (show szs.all HV=true by kernel_rfl) s hs)
theorem ah(h:i<30):bO i ∈ szs:=by
 unfold bO;rw[au₀,bc₀ (by rw[gI];exact h)];exact List.getElem_mem _
theorem g9{a b:Int}(h:0<=a)(hb:0<b):0<=a.tdiv b/\a.tdiv b<=a:=⟨Int.tdiv_nonneg h byO,Int.tdiv_le_self b h⟩
theorem nQ{s:Sz}(h:SzOK s):0<=fU s/\fU s<=40000/\0<=eO s/\eO s<=40000/\0<=s.r.tdiv (s.rr+2)/\s.r.tdiv (s.rr+2)<=200/\0<=s.c.tdiv (s.rc+2)/\s.c.tdiv (s.rc+2)<=200:=by
 obtain⟨r0,r1,c0,c1,rr0,rr1,rc0,rc1,_⟩:=h;have d1:=g9 (a:=s.r) (b:=s.rr+2) byO byO;have d2:=g9 (a:=s.c) (b:=s.rc+2) byO byO;have m1:=dV (a:=s.r.tdiv (s.rr+2)) (b:=s.rr) (A:=200) (B:=200) byO byO byO byO byO;have m2:=dV (a:=s.c.tdiv (s.rc+2)) (b:=s.rc) (A:=200) (B:=200) byO byO byO byO byO;have n1:0<=s.r.tdiv (s.rr+2)*s.rr:=Int.mul_nonneg d1.1 byO;have n2:0<=s.c.tdiv (s.rc+2)*s.rc:=Int.mul_nonneg d2.1 byO;unfold fU eO;omega
theorem uW{s:Sz}(hs:SzOK s):Ev cp lo 77 [s.val] H (fun v H'=>Ext H H'/\v=.tuple #[.int .i64 (fU s),.int .i64 (eO s)]):=by
 have hb:=nQ hs;obtain⟨r0,r1,c0,c1,rr0,rr1,rc0,rc1,_⟩:=hs;unfold fU eO at hb;refine stG rfl rfl ?_;unfold Qd;simp only[kB,aD];refine aA ?_;refine aK ?_;exact⟨Ext.app _ _,rfl⟩
def R5(R C:Int):Prop:=∃s ∈ szs,fU s=R/\eO s=C
def lr(s:Sz)(row:Int):Int:=row.tmod (s.rr+2)
def lc(s:Sz)(col:Int):Int:=col.tmod (s.rc+2)
def jz(s:Sz)(row col:Int):Bool:=(decide (lc s col=0) || decide (lr s row=s.rr+1)) || decide (lr s row=0) || decide (lc s col=s.rc+1)
def vf(s:Sz)(row col:Int):Bool:=if (decide (lc s col=0) || decide (lr s row=s.rr+1))=true then true else if lr s row=0 then decide ((lc s col).tmod 2=0) else if lc s col=s.rc+1 then decide ((lr s row).tmod 2=1) else false
def eh(s:Sz)(row col:Int):Int:=if jz s row col=true then 0 else(row.tdiv (s.rr+2)*s.rr+lr s row-1)*eO s+col.tdiv (s.rc+2)*s.rc+lc s col-1
theorem Ft{s:Sz}{row col:Int}(hs:SzOK s)(hlo:lo<=H.length)(h0:0<=row)(h1:row<=200)(h2:0<=col)(h3:col<=200) :
  Ev cp lo 79 [s.val,.int .i64 row,.int .i64 col] H (fun v H'=>Ext H H'/\v=.agg #[.bool (jz s row col),.bool (vf s row col),.int .i64 (eh s row col)]):=by
 have hb:=nQ hs;have hs':=hs;obtain⟨r0,r1,c0,c1,rr0,rr1,rc0,rc1,_⟩:=hs';have m1:=eM (a:=row) (m:=s.rr+2) byO byO;have m2:=eM (a:=col) (m:=s.rc+2) byO byO;have e1:s.rr+2-1=s.rr+1:=byO;have e2:s.rc+2-1=s.rc+1:=byO;have er:row.tmod (s.rr+2)=lr s row:=rfl;have ec:col.tmod (s.rc+2)=lc s col:=rfl;rw[er]at m1;rw[ec]at m2;refine stG rfl rfl ?_;unfold Qf;simp only[kB,aD];refine aA ?_;by_cases k1:(decide (lc s col=0) || decide (lr s row=s.rr+1))=true
 ·refine bL ?_
  refine aA ?_;refine aK ?_
  grind[Ext.app,aM,jz,vf,eh]
 have k1':(decide (lc s col=0) || decide (lr s row=s.rr+1))=false:=by simp_all
 refine an ?_;have a1:¬ lc s col=0:=by simp_all
 have a2:¬ lr s row=s.rr+1:=by simp_all
 (try simp only[aD]);refine aP ?_ ?_<;>intro h
 ·refine aA ?_
  refine aK ?_
  grind[Ext.app,aM,jz,vf,eh]
 (try simp );refine aP ?_ ?_<;>intro h
 ·refine aA ?_
  refine aK ?_
  grind[Ext.app,aM,jz,vf,eh]
 have k3:¬ lc s col=s.rc+1:=by simpa using h
 refine bF ?_;refine aC (uW (s:=s) hs) ?_;rintro v H3 ⟨hx3,rfl⟩;have g0:H3.get H.length=some _:=hx3.get aN;have g1:H3.get (H.length+1)=some _:=hx3.get aN;have hl3:=hx3.1;simp only[as₀,ak₀]at hl3;have t1:=g9 (a:=row) (b:=s.rr+2) byO byO;have t2:=g9 (a:=col) (b:=s.rc+2) byO byO;have u1:=dV (a:=row.tdiv (s.rr+2)) (b:=s.rr) (A:=200) (B:=200) byO byO byO byO byO;have u2:=dV (a:=col.tdiv (s.rc+2)) (b:=s.rc) (A:=200) (B:=200) byO byO byO byO byO;have u3:=dV (a:=row.tdiv (s.rr+2)*s.rr+lr s row-1) (b:=eO s) (A:=50000) (B:=40000) byO byO byO byO byO;have hx0:=hx3.of_app;refine aA ?_;refine aK ?_
 grind[aM,jz,vf,eh,Ext.set]
def I4(R C i:Int):Bool:=(decide (i.tdiv C=R-2)&&decide (i.tmod C=C-2)) || (decide (i.tdiv C=R-1)&&decide (i.tmod C=C-1))
theorem I5{R C i:Int}(hd:Dim R C)(h0:0<=i)(h1:i<=2000000000):Ev cp lo 80 [.int .i64 R,.int .i64 C,.int .i64 i] H (fun v H'=>H'=H/\v=.bool (I4 R C i)):=by
 obtain⟨r0,r1,c0,c1⟩:=hd;have t1:=g9 (a:=i) (b:=C) byO byO;refine stG rfl rfl ?_;unfold Qg;simp only[kB];refine aA ?_;exact⟨rfl,rfl⟩
theorem CP{a b:Sz}:ag [1,1,1,1,1,1,1] a.cells b.cells=some (decide (a=b)):=by
 cases a;cases b;simp[Sz.cells,ag,jc]
 grind
theorem Ir{j:Nat}{s:Sz}(hg:H.get j=some szCells):Ev cp lo 99 [.slice (some ⟨j,0,none⟩) 30 30,s.val] H (fun v H'=>Ext H H'/\∃k:Int,v=.int .i64 k/\decide (0<=k)=decide (s ∈ szs)):=by
 have hj:=Heap.get_lt hg;refine stG rfl rfl ?_;unfold NA;simp only[kB];refine aA ?_;refine aY (fun m S H'=>∃(i:Int) (x4:Value),0<=i/\i<=30/\m=(30-i).toNat/\S=[.slice (some ⟨j,0,none⟩) 30 30,s.val,.pointer (some ⟨H.length,0,none⟩),.int .i64 0,x4,.int .i64 30,.int .i64 i]/\H'=H++[some s.cells]/\¬ s ∈ szs.take i.toNat) 30 ?_ ?_
 ·exact⟨0,_,byO,byO,byO,rfl,rfl,by simp⟩
 rintro m S H2 ⟨i,x4,hi0,hi1,rfl,rfl,rfl,hno⟩;(try simp only[aD]);refine aP ?_ ?_<;>intro h
 ·have hi:i<30:=by simpa using h
  have hrow:=gW (i:=i.toNat) byO;have hlen:=fh;have hse:=CP (a:=s) (b:=bO i.toNat);simp only[Sz.cells]at hse;have hmem:=ah (i:=i.toNat) byO;refine aA ?_;refine aP ?_ ?_<;>intro h
  ·refine aA ?_
   refine⟨Ext.app _ _,i,rfl,?_⟩
   simp_all
  ·refine aA ?_
   simp only[ak];refine⟨(30-(i+1)).toNat,byO,i+1,_,byO,byO,rfl,rfl,by trivial,?_⟩;rw[show(i+1).toNat=i.toNat+1 by omega,gJ byO]
   simp_all
 ·obtain rfl:i=30:=by grind
  refine aA ?_;refine⟨Ext.app _ _,-1,rfl,?_⟩
  grind[gI]
theorem zf{j:Nat}{s:Sz}(hg:H.get j=some szCells):Ev cp lo 54 [.slice (some ⟨j,0,none⟩) 30 30,s.val] H (fun v H'=>Ext H H'/\v=.bool (decide (s ∈ szs))):=by
 have hj:=Heap.get_lt hg;refine stG rfl rfl ?_;unfold My;simp only[kB];refine aA ?_;refine aT ?_;refine aC (Ir (s:=s) (j:=j) dP) ?_;rintro v H1 ⟨hx,k,rfl,hk⟩;refine aA ?_;refine aK ?_
 grind[aM,Ext.of_app]
def Words(H:Heap)(v:Value)(ws:List Int):Prop:=(v=.slice none 0 0/\ws=[])\/∃b cap xs,v=.slice (some ⟨b,0,none⟩) ws.length cap/\H.get b=some (aW xs)/\(∀i,i<ws.length->xs.getD i 0=ws.getD i 0)/\ws.length<=xs.length
theorem Words.mono{H H':Heap}{v:Value}{ws:List Int}(h:Words H v ws)(e:Ext H H'):Words H' v ws:=by
 rcases h with h|⟨b,cap,xs,h1,h2,h3⟩
 ·exact .inl h
 ·exact .inr ⟨b,cap,xs,h1,e.get h2,h3⟩
def EK(w n:Int):Bool:=decide (IntKind.i64.wrap ((BitVec.ofInt IntKind.i64.bits (w.fdiv (2^(min (7-n.tmod 8).toNat IntKind.i64.bits))) &&& BitVec.ofInt IntKind.i64.bits 1).toNat:Int)=1)
def jG(s:Sz)(o ws:List Int)(i:Nat):Bool:=
 if jz s ((i:Int).tdiv s.c) ((i:Int).tmod s.c)=true then vf s ((i:Int).tdiv s.c) ((i:Int).tmod s.c)
 else if 0<=o.getD (eh s ((i:Int).tdiv s.c) ((i:Int).tmod s.c)).toNat 0 then EK (ws.getD ((o.getD (eh s ((i:Int).tdiv s.c) ((i:Int).tmod s.c)).toNat 0).tdiv 8).toNat 0) (o.getD (eh s ((i:Int).tdiv s.c) ((i:Int).tmod s.c)).toNat 0)
 else I4 (fU s) (eO s) (eh s ((i:Int).tdiv s.c) ((i:Int).tmod s.c))
def bh(s:Sz)(o ws:List Int)(i:Nat):List Bool:=(List.range i).map (jG s o ws)
structure SizeOrd (s:Sz)(gf:G):Prop where
 ord:AT (fU s) (eO s)=some gf
 dim:Dim (fU s) (eO s)
 od:Ordered (fU s*eO s).toNat (s.d+s.k).toNat gf.cells
 loc:∀i:Nat,(i:Int)<s.r*s.c->jz s ((i:Int).tdiv s.c) ((i:Int).tmod s.c)=false->0<=eh s ((i:Int).tdiv s.c) ((i:Int).tmod s.c)/\eh s ((i:Int).tdiv s.c) ((i:Int).tmod s.c)<fU s*eO s
def cW(ws:List Int):Bool:=ws.any fun w=>decide (w<0) || decide (255<w)
theorem yM{s:Sz}{o ws:List Int}{i n:Nat}{b:Bool}(hi:i<n)(hb:b=jG s o ws i):(bh s o ws i++List.replicate (n-i) false).set i b=bh s o ws (i+1)++List.replicate (n-(i+1)) false:=by
 have hl:(bh s o ws i).length=i:=by simp[bh]
 rw[List.set_append_right i b byO,hl,Nat.sub_self];obtain⟨k,hk⟩:∃k,n-i=k+1:=⟨n-i-1,byO⟩
 grind[bh,List.range_succ]
theorem j8{p:Int->Bool}{l:List Int}(h:i<l.length):(l.take (i+1)).any p=((l.take i).any p || p (l.getD i 0)):=by
 grind[List.take_add_one]
set_option maxHeartbeats 4000000 in
theorem Jn{v:Value}{ws:List Int}{s:Sz}(hlo:lo<=H.length)(hw:Words H v ws)(hs:s ∈ szs->∃gf,SizeOrd s gf) :
  Ev cp lo 41 [v,s.val] H (fun r H'=>Ext H H' /\
   ((¬ s ∈ szs/\r=.tuple #[.agg #[.int .i64 0,.int .i64 0,.slice none 0 0],.int .i64 14]) \/
    (s ∈ szs/\(ws.length:Int)≠s.d+s.k/\r=.tuple #[.agg #[.int .i64 0,.int .i64 0,.slice none 0 0],.int .i64 7]) \/
    (s ∈ szs/\(ws.length:Int)=s.d+s.k/\cW ws=true/\r=.tuple #[.agg #[.int .i64 0,.int .i64 0,.slice none 0 0],.int .i64 3]) \/
    (s ∈ szs/\(ws.length:Int)=s.d+s.k/\cW ws=false/\∃gf q,SizeOrd s gf/\H.length<=q/\r=.tuple #[.agg #[.int .i64 s.c,.int .i64 s.r,.slice (some ⟨q,0,none⟩) (s.r*s.c).toNat (s.r*s.c).toNat],.int .i64 0]/\H'.get q=some (et (bh s gf.cells ws (s.r*s.c).toNat))))):=by
 refine stG rfl rfl ?_;unfold QN;simp only[kB,aD];refine aA ?_;refine aT ?_;refine bS (wb (Nat.le_refl _)) ?_;rintro v1 H1 ⟨j,hj,rfl,hg,hE⟩;have g0:H1.get H.length=some _:=hE.get aN;have g1:H1.get (H.length+1)=some _:=hE.get aN;have hx1:=hE.of_app;have hl1:=hE.1;simp only[as₀,ak₀,an₀]at hj hl1;clear hE;refine bF ?_;refine aC (zf (s:=s) (j:=j) hg) ?_;rintro v2 H2 ⟨hx2,rfl⟩;have g0:=hx2.get g0;have g1:=hx2.get g1;have hx2:=hx1.trans hx2;have hl2:=Heap.get_lt g1;clear hx1 hl1 hg;(try simp only[aD]);refine aP ?_ ?_<;>intro h
 ·have hsm:¬ s ∈ szs:=by simpa using h
  clear h;refine aA ?_;refine aK ?_;exact⟨hx2.set byO,.inl ⟨hsm,rfl⟩⟩
 have hsm:s ∈ szs:=by simpa using h
 clear h;obtain⟨gf,hso⟩:=hs hsm;have hok:=Ai s hsm;have hok':=hok;obtain⟨r0,r1,c0,c1,rr0,rr1,rc0,rc1,d0,d1,k0,k1⟩:=hok';(try simp only[aD]);rcases hw with ⟨rfl,rfl⟩|⟨b,cap,xs,rfl,hb,hws,hwl⟩
 ·refine aP ?_ ?_<;>intro h
  ·clear h
   refine aA ?_;refine aK ?_;exact⟨hx2.set byO,.inr (.inl ⟨hsm,by simp;omega,rfl⟩)⟩
  grind
 have hbl:=Heap.get_lt hb;refine aP ?_ ?_<;>intro h
 ·have hlen:¬ (ws.length:Int)=s.d+s.k:=by simpa using h
  clear h;refine aA ?_;refine aK ?_;exact⟨hx2.set byO,.inr (.inl ⟨hsm,hlen,rfl⟩)⟩
 have hlen:(ws.length:Int)=s.d+s.k:=by simpa using h
 clear h;have hb2:=hx2.get hb;have hsl:ws.length<=3200:=byO;refine aA ?_;refine c8 (fun S' H'=>∃x1 x5 x13 x14 x15 x18:Value,cW ws=false/\S'=[.slice (some ⟨b,0,none⟩) ws.length cap,x1,.pointer (some ⟨H.length,0,none⟩),.pointer (some ⟨H.length+1,0,none⟩),.int .i64 0,x5,undef,undef,undef,undef,undef,undef,undef,x13,x14,x15,.slice (some ⟨b,0,none⟩) ws.length cap,.int .i64 (s.d+s.k),x18,undef,undef,undef,undef,undef,undef,undef,undef,undef,undef,undef,undef]/\H'=H2) ?_ ?_
 ·refine aY (fun m S' H'=>∃(x1 x5 x13 x14 x15:Value) (i:Nat),i<=ws.length/\m=ws.length-i/\cW (ws.take i)=false/\S'=[.slice (some ⟨b,0,none⟩) ws.length cap,x1,.pointer (some ⟨H.length,0,none⟩),.pointer (some ⟨H.length+1,0,none⟩),.int .i64 0,x5,undef,undef,undef,undef,undef,undef,undef,x13,x14,x15,.slice (some ⟨b,0,none⟩) ws.length cap,.int .i64 (s.d+s.k),.int .i64 i,undef,undef,undef,undef,undef,undef,undef,undef,undef,undef,undef,undef]/\H'=H2) ws.length ?_ ?_
  ·exact⟨_,_,_,_,_,0,byO,byO,by rfl,rfl,rfl⟩
  rintro m S' H' ⟨x1,x5,x13,x14,x15,i,hi,rfl,hbw,rfl,rfl⟩;(try simp only[aD]);refine aP ?_ ?_<;>intro h
  ·have hi2:i<ws.length:=by grind
   clear h;have hne:(i:Int)<ws.length:=byO;refine aA ?_;refine aP ?_ ?_<;>intro h
   ·have hbad:cW ws=true:=by
     have:=j8 (p:=fun w=>decide (w<0) || decide (255<w)) hi2
     grind[cW]
    clear h;refine aA ?_;refine aK ?_;exact⟨hx2.set byO,.inr (.inr (.inl ⟨hsm,hlen,hbad,rfl⟩))⟩
   ·refine aA ?_
    simp only[ak];refine⟨ws.length-(i+1),byO,_,_,_,_,_,i+1,byO,rfl,?_,by rfl,by trivial⟩
    grind[cW,j8]
  ·have hi2:i=ws.length:=by grind
   simp_all[aD]
 rintro S' H' ⟨x1,x5,x13,x14,x15,x18,hbw,rfl,rfl⟩;refine bF ?_;refine aC (uW (s:=s) hok) ?_;rintro v H3 ⟨hx3,rfl⟩;have g0:=hx3.get g0;have g1:=hx3.get g1;have hb3:=hx3.get hb2;have hx3:=hx2.trans hx3;refine aA ?_;refine aT ?_;refine aC (Jc hso.dim (by have:=hx3.1;omega) hso.ord) ?_;rintro v H4 ⟨hx4,q,hq,rfl,hgq⟩;have g0:=hx4.get g0;have g1:=hx4.get g1;have hb4:=hx4.get hb3;have hl4:=Heap.get_lt g1;have hql:=Heap.get_lt hgq;have hl3:=hx3.1;have hx4:=hx3.trans hx4;have hm:=dV (a:=s.r) (b:=s.c) (A:=200) (B:=200) byO byO byO byO byO;have hm0:0<=s.r*s.c:=Int.mul_nonneg byO byO;refine aA ?_;have hgl:gf.cells.length<=(fU s*eO s).toNat/\(fU s*eO s).toNat<=gf.cells.length:=by rw[hso.od.len];omega
 have hmb:=nQ hok;have hrc0:0<=fU s*eO s:=Int.mul_nonneg byO byO;generalize hM:H4.length=M at *;generalize hN:(s.r*s.c).toNat=N at *;have hNi:(N:Int)<=s.r*s.c/\s.r*s.c<=N:=byO;clear hN;refine aY (fun m S' H'=>∃(x1 x5 x13 x14 x15 x18 x19 x20 x21 x22 x23 x24 y10 y11 y12 y27 y28 y29 y30:Value) (i:Nat),i<=N/\m=N-i/\S'=[.slice (some ⟨b,0,none⟩) ws.length cap,x1,.pointer (some ⟨H.length,0,none⟩),.pointer (some ⟨H.length+1,0,none⟩),.int .i64 0,x5,.int .i64 (fU s),.int .i64 (eO s),.slice (some ⟨q,0,none⟩) gf.cells.length gf.cells.length,.pointer (some ⟨M+1,0,none⟩),y10,y11,y12,x13,x14,x15,.slice (some ⟨b,0,none⟩) ws.length cap,.int .i64 (s.d+s.k),x18,x19,x20,x21,x22,x23,x24,.int .i64 N,.int .i64 i,y27,y28,y29,y30]/\Ext H H'/\M+1<H'.length/\H'.get H.length=some s.cells/\H'.get (H.length+1)=some [.int .i64 0,.int .i64 0,.slice none 0 0]/\H'.get b=some (aW xs)/\H'.get q=some (aW gf.cells)/\H'.get (M+1)=some [.int .i64 s.c,.int .i64 s.r,.slice (some ⟨M,0,none⟩) N N]/\H'.get M=some (et (bh s gf.cells ws i++List.replicate (N-i) false))) N ?_ ?_
 ·refine⟨_,_,_,_,_,_,_,_,_,_,_,_,_,_,_,_,_,_,_,0,byO,byO,rfl,hx4.trans (Ext.app _ _),?_,?_,?_,?_,?_,?_,?_⟩
  ·simp;omega
  ·rw[aV byO];exact g0
  ·grind[aV]
  ·grind[aV]
  ·grind[aV]
  ·rw[<-hM];exact bC
  grind[aF,bh]
 rintro m S' H5 ⟨x1,x5,x13,x14,x15,x18,x19,x20,x21,x22,x23,x24,y10,y11,y12,y27,y28,y29,y30,i,hi,rfl,rfl,hx5,hl5,f0,f1,fb,fq,fm1,fm⟩;clear g0 g1 hb4 hgq hb3 hb2 hx2 hx3 hx4 hb;(try simp only[aD]);refine aP ?_ ?_<;>intro h
 ·have hi2:i<N:=by simp_all
  clear h;have hiN:(i:Int)<s.r*s.c:=byO;have tb:=g9 (a:=i) (b:=s.c) byO byO;have tm:=eM (a:=i) (m:=s.c) byO byO;have trow:(i:Int).tdiv s.c<=200:=by
   have:(i:Int).tdiv s.c<s.r:=by
    rw[Int.tdiv_eq_ediv_of_nonneg byO];exact Int.ediv_lt_of_lt_mul byO hiN
   omega
  have hloc:=hso.loc i hiN;have hset:∀{d:Bool},d=jG s gf.cells ws i->(bh s gf.cells ws i++List.replicate (N-i) false).set i d=bh s gf.cells ws (i+1)++List.replicate (N-(i+1)) false:=fun h=>yM hi2 h;have hml:(bh s gf.cells ws i++List.replicate (N-i) false).length=N:=by grind[bh]
  have hdef:=jG.eq_1 s gf.cells ws i;generalize hrow:(i:Int).tdiv s.c=row at *;generalize hcol:(i:Int).tmod s.c=col at *;refine aA ?_;refine aT ?_;refine aC (Ft (s:=s) (row:=row) (col:=col) hok byO byO byO byO byO) ?_;rintro v H6 ⟨hx6,rfl⟩;have f0:=hx6.get f0;have f1:=hx6.get f1;have fb:=hx6.get fb;have fq:=hx6.get fq;have fm1:=hx6.get fm1;have fm:=hx6.get fm;have hl6:=Heap.get_lt fm1;have hx6:=hx5.trans hx6;have hl06:=hx6.1;refine aA ?_;have hMl:=Heap.get_lt fm;refine aP ?_ ?_<;>intro h
  ·have hB:=h
   clear hloc h;refine aA ?_;have hd:vf s row col=jG s gf.cells ws i:=by simp_all
   simp only[ak];refine⟨N-(i+1),byO,_,_,_,_,_,_,_,_,_,_,_,_,_,_,_,_,_,_,_,i+1,byO,rfl,by rfl,(hx6.set byO).trans (Ext.app _ _),by simp;omega,by grind[aV,aI],by grind[aV,aI],by grind[aV,aI],by grind[aV,aI],by grind[aV,aI],?_⟩
   grind[aV,aG]
  have hB:=h;have hloc:=hloc hB;clear h;have hnb:¬ jz s row col=true:=by rw[hB];simp
  rw[if_neg hnb]at hdef;have hltI:(eh s row col).toNat<(fU s*eO s).toNat:=byO;have hlt8:=hso.od.lt (eh s row col).toNat hltI;have hgd:gf.cells.getD (eh s row col).toNat 0=gf.cells.getD (eh s row col).toNat (-1):=by
   grind
  rw[<-hgd]at hlt8;clear hgd;have hnI:(eh s row col).toNat<gf.cells.length:=byO;have hlocb:eh s row col<=40000*40000:=by
   have:=dV (a:=fU s) (b:=eO s) (A:=40000) (B:=40000) byO byO byO byO byO;omega
  refine aA ?_;generalize hn:gf.cells.getD (eh s row col).toNat 0=n at *;refine aP ?_ ?_<;>intro h
  ·have hn0:0<=n:=by simpa using h
   clear h;rw[if_pos hn0]at hdef;have t8:=g9 (a:=n) (b:=8) hn0 byO;have m8:=eM (a:=n) (m:=8) hn0 byO;have q8:n.tdiv 8<ws.length:=by
    grind
   have q8':(n.tdiv 8).toNat<ws.length:=byO;have hbe:∀w:Int,decide (IntKind.i64.wrap ((BitVec.ofInt IntKind.i64.bits (w.fdiv (2^(min (7-n.tmod 8).toNat IntKind.i64.bits))) &&& BitVec.ofInt IntKind.i64.bits 1).toNat:Int)=1)=EK w n:=fun _=>rfl;refine aA ?_;have hd:EK (ws.getD (n.tdiv 8).toNat 0) n=jG s gf.cells ws i:=hdef.symm;simp only[ak];refine⟨N-(i+1),byO,_,_,_,_,_,_,_,_,_,_,_,_,_,_,_,_,_,_,_,i+1,byO,rfl,by rfl,(hx6.set byO).trans (Ext.app _ _),by simp;omega,by grind[aV,aI],by grind[aV,aI],by grind[aV,aI],by grind[aV,aI],by grind[aV,aI],?_⟩
   grind[aV,aG]
  ·refine bF ?_
   refine bS (I5 (i:=eh s row col) hso.dim byO byO) ?_;rintro v H7 ⟨rfl,rfl⟩;refine aA ?_;simp ;refine⟨N-(i+1),byO,_,_,_,_,_,_,_,_,_,_,_,_,_,_,_,_,_,_,_,i+1,byO,rfl,by rfl,(hx6.set byO).trans (Ext.app _ _),by simp;omega,by grind[aV,aI],by grind[aV,aI],by grind[aV,aI],by grind[aV,aI],by grind[aV,aI],?_⟩
   grind[aV,aG]
 ·have hi2:i=N:=by grind
  subst hi2;refine aA ?_;refine aK ?_;refine⟨hx5.set byO,.inr (.inr (.inr ⟨hsm,hlen,hbw,gf,M,hso,byO,rfl,?_⟩))⟩
  grind[aI]
theorem Fg{R h rr K x:Int}(hR:R=K*h)(hh:h=rr+2)(hrr:0<rr)(h0:0<=x)(hx:x<R)(_:0<=K)(n0:¬ x.tmod h=0)(n1:¬ x.tmod h=rr+1):0<=x.tdiv h*rr+x.tmod h-1/\x.tdiv h*rr+x.tmod h-1<K*rr:=by
 have m0:=Int.emod_nonneg x (show h≠0 by omega);have m1:=Int.emod_lt_of_pos x (show 0<h by omega);have d0:0<=x/h:=Int.ediv_nonneg h0 byO;have d1:x/h<K:=Int.ediv_lt_of_lt_mul byO byO;have p0:0<=x/h*rr:=Int.mul_nonneg d0 byO;have p1:(x/h+1)*rr<=K*rr:=Int.mul_le_mul_of_nonneg_right byO byO
 grind
structure SzFit (s:Sz):Prop where
 hr:s.r=s.r.tdiv (s.rr+2)*(s.rr+2)
 hc:s.c=s.c.tdiv (s.rc+2)*(s.rc+2)
theorem KR:∀s ∈ szs,SzFit s:=by
 have h:szs.all (fun s=>decide (s.r=s.r.tdiv (s.rr+2)*(s.rr+2))&&decide (s.c=s.c.tdiv (s.rc+2)*(s.rc+2)))=true:=by kernel_rfl
 intro s hs;have:=List.all_eq_true.1 h s hs;simp at this;exact⟨this.1,this.2⟩
theorem Nq{s:Sz}(hs:SzOK s)(hf:SzFit s)(i:Nat)(hi:(i:Int)<s.r*s.c)(hB:jz s ((i:Int).tdiv s.c) ((i:Int).tmod s.c)=false):0<=eh s ((i:Int).tdiv s.c) ((i:Int).tmod s.c)/\eh s ((i:Int).tdiv s.c) ((i:Int).tmod s.c)<fU s*eO s:=by
 have hmb:=nQ hs;obtain⟨r0,r1,c0,c1,rr0,rr1,rc0,rc1,_⟩:=hs;have tm:=eM (a:=i) (m:=s.c) byO byO;have tr:0<=(i:Int).tdiv s.c/\(i:Int).tdiv s.c<s.r:=by
  rw[Int.tdiv_eq_ediv_of_nonneg byO];exact⟨Int.ediv_nonneg byO byO,Int.ediv_lt_of_lt_mul byO hi⟩
 generalize (i:Int).tdiv s.c=row at *;generalize (i:Int).tmod s.c=col at *;have hI:eh s row col=(row.tdiv (s.rr+2)*s.rr+lr s row-1)*eO s+(col.tdiv (s.rc+2)*s.rc+lc s col-1):=by
  grind[eh]
 simp only[jz,Bool.or_eq_false_iff,ai₀]at hB;obtain⟨⟨⟨b1,b2⟩,b3⟩,b4⟩:=hB;have x1:=Fg (R:=s.r) (h:=s.rr+2) (rr:=s.rr) (K:=s.r.tdiv (s.rr+2)) (x:=row) hf.hr rfl byO byO byO byO b3 b2;have x2:=Fg (R:=s.c) (h:=s.rc+2) (rr:=s.rc) (K:=s.c.tdiv (s.rc+2)) (x:=col) hf.hc rfl byO byO byO byO b1 b4;have x1':0<=row.tdiv (s.rr+2)*s.rr+lr s row-1/\row.tdiv (s.rr+2)*s.rr+lr s row-1<fU s:=x1;have x2':0<=col.tdiv (s.rc+2)*s.rc+lc s col-1/\col.tdiv (s.rc+2)*s.rc+lc s col-1<eO s:=x2;rw[hI];exact vZ x1'.1 x1'.2 x2'.1 x2'.2
theorem aX{s:Sz}(hs:s ∈ szs){R C w:Nat}(hR:fU s=R)(hC:eO s=C)(hw:(s.d+s.k).toNat=w)(hdim:(6<=R/\R<=200)/\6<=C/\C<=200)(h:dG R C w=true):∃gf,SizeOrd s gf:=by
 obtain⟨g,h1,h2⟩:=AU h;refine⟨g,?_,?_,?_,Nq (Ai s hs) (KR s hs)⟩
 ·simp_all
 ·exact⟨byO,byO,byO,byO⟩
 grind
theorem lW{s:Sz}{o ws:List Int}{n:Nat}:(bh s o ws n).length=n:=by simp[bh]
end Go.Proofs.YtmnlgdpdgjbfgaaGreat
