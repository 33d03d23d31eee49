/- Lemmas. -/
import Derived.Test.YtmnlgdpdgjbfgaaGreatD10
import Derived.Test.YtmnlgdpdgjbfgaaGreatD20
set_option linter.all false
namespace Go.Proofs.YtmnlgdpdgjbfgaaGreat
open Go.Abs Go.RS
variable{H:Heap}{lo:Nat}{v:Value}
set_option maxRecDepth 20000
section
variable {f:FD}[OkC f]
namespace XArR
def xtr:=zzi @Int.cast_ofNat_Int (zzi @fv.eq_1 @fvf.eq_1)
end XArR
open XArR
set_option maxHeartbeats 1000000 in
theorem Az{g:El f}(hlo:lo<=H.length)(hg:Gn (OkC.ok (f:=f)) g):Ev cp lo 71 [fvf f] H (fun v H'=>Ext H H'/\∃be bl,H.length<=be/\H.length<=bl/\v=arV f be bl/\ArH H' g be bl):=by
 have h2:=qle (f:=f);have hinj:=yH (kN hg) (dv hg);unfold fvf fv;refine stG rfl rfl ?_;unfold NS;simp only[kB,aB];refine aC ?_;refine aQ ?_;refine aA (tV (OkC.ok (f:=f)) hg) ?_;rintro v H1 ⟨hx1,rfl⟩;have g0:H1.get H.length=some _:=hx1.get aW;have g1:H1.get (H.length+1)=some _:=hx1.get aW;have hx1:=hx1.of_app;have hl1:=Heap.get_lt g1;have hq1:((f.q:Int)-1).toNat=f.q-1:=byO;refine aC ?_;generalize hM:H1.length=M at *;refine aa (fun i S H'=>Ext H H'/\M+2<H'.length/\H'.get H.length=some [.int .i64 (FD.ch f:Nat),.int .i64 (f.q:Nat),.int .i64 (f.poly:Nat)]/\H'.get (H.length+1)=some [.int .i64 0,.int .i64 0,.slice none 0 0,.slice none 0 0]/\H'.get (M+2)=some (arC f M (M+1)) /\
  ∃E L:List Int,H'.get M=some (bN E)/\H'.get (M+1)=some (bN L)/\E.length=f.q-1/\L.length=f.q/\(∀k,k<i->E.getD k 0=((pw g k).val:Nat))/\(∀k,k<i->L.getD (pw g k).val 0=(k:Nat))/\∃(z:Nat->Value),S=[z 0,.pointer (some ⟨H.length,0,none⟩),.pointer (some ⟨H.length+1,0,none⟩),.int .i64 (g.val:Nat),.pointer (some ⟨M+2,0,none⟩),.int .i64 ((pw g i).val:Nat),z 6,z 7,z 8,z 9,z 10,z 11,z 12,z 13,.int .i64 ((f.q-1:Nat):Int),.int .i64 (i:Nat),z 16,z 17,z 18,z 19,z 20,z 21]) (f.q-1) ?_ ?_ ?_ ?_
 ·refine⟨hx1.trans (Ext.app _ _),by simp;omega,by simp(disch:=try exact dO)only[evB,xtr,Nat.reduceAdd,Nat.reduceBEq, *],by simp(disch:=try exact dO)only[evB,xtr,Nat.reduceAdd,Nat.reduceBEq, *],?_,List.replicate (f.q-1) 0,List.replicate f.q 0,?_,?_,by simp,by simp,by omega,by omega,aR rfl⟩
  ·rw[<-hM,bI];rfl
  ·rw[<-hM,aK]
  ·rw[<-hM,bI];rfl
 ·rintro i S H' hi ⟨hx,hl,f0,f1,f2,E,L,fE,fL,hE,hL,hEa,hLa,z,rfl⟩
  exact⟨_,aW,by simp⟩
 ·rintro i S H2 hi ⟨hx,hl,f0,f1,f2,E,L,fE,fL,hE,hL,hEa,hLa,z,rfl⟩
  unfold arC at f2;have hxv:=(pw g i).lt;have hE2:E.length<=f.q-1/\f.q-1<=E.length:=byO;have hL2:L.length<=f.q/\f.q<=L.length:=byO;have hnat:((i:Nat):Int)<((f.q-1:Nat):Int):=byO;clear hE hL;refine aC ?_;refine y5 aW aW (.inr (by simp[ag])) ?_;(try simp only[aB]);refine aQ ?_;have hEx:Ext H (List.set (List.set H2 M (some (bN (E.set i ↑(pw g i).val)))) (M+1) (some (bN (L.set (pw g i).val ↑i)))):=(hx.set byO).set byO;refine aA (KL (f:=f) (OkC.ok (f:=f)) hxv g.lt) ?_;rintro v H3 ⟨hx3,rfl⟩;have hmul:eN f (pw g i).val g.val=(pw g (i+1)).val:=rfl;have f0:=hx3.get (i:=H.length) (by rw[aH byO,aH byO];exact f0);have f1:=hx3.get (i:=H.length+1) (by rw[aH byO,aH byO];exact f1);have f2:=hx3.get (i:=M+2) (by rw[aH byO,aH byO];exact f2);have fE:=hx3.get (i:=M) (by rw[aH byO,aF byO]);have fL:=hx3.get (i:=M+1) (by rw[aF (by simp;omega)]);have hl3:=Heap.get_lt f2;have hx3:=hEx.trans hx3;refine aC ?_;refine⟨hx3,hl3,f0,f1,f2,_,_,fE,fL,by simp;omega,by simp;omega,fun k hk=>?_,fun k hk=>?_,aR ncM⟩
  ·by_cases e:k=i
   ·subst e;rw[kg byO]
   ·rw[nK (fun h=>e h.symm)];exact hEa k byO
  ·by_cases e:k=i
   ·subst e;rw[kg byO]
   ·rw[nK (fun h=>e (hinj k i byO hi (El.ext h.symm)))];exact hLa k byO
 ·rintro S H2 ⟨hx,hl,f0,f1,f2,E,L,fE,fL,hE,hL,hEa,hLa,z,rfl⟩
  unfold arC at f2;refine aC ?_;refine aT ?_;exact⟨hx.set byO,M,M+1,byO,byO,rfl,⟨E,by rw[aH byO];exact fE,hE,hEa⟩,⟨L,by rw[aH byO];exact fL,hL,hLa⟩⟩
theorem Ry{be bl:Nat}(x y:El f):Ev cp lo 193 [arV f be bl,.int .i64 (x.val:Nat),.int .i64 (y.val:Nat)] H (fun v H'=>Ext H H'/\v=.int .i64 ((x-y).val:Nat)):=by
 have h2:=qle (f:=f);have hx:=x.lt;have hy:=y.lt;have hs:(x-y).val=va f x.val y.val:=(yy (OkC.ok (f:=f)) x.lt y.lt).symm;have hc:=pq (OkC.ok (f:=f));rw[hs];clear hs;have e1:=iI (a:=x.val) (b:=y.val) byO byO;have e2:=HT h2.1 hx hy;unfold arV;refine stG rfl rfl ?_;unfold Iy;simp only[kB,aB];refine aC ?_;refine aS ?_ ?_<;>intro h
 ·have hp:f.poly≠0:=hc.1 (by simp at h;omega)
  clear h;refine aC ?_;refine aT ?_;refine⟨Ext.app _ _,?_⟩;unfold va;rw[if_neg hp];rfl
 ·have hp:f.poly=0:=by
   apply Decidable.byContradiction;intro h0;have:=hc.2 h0;simp at h;omega
  clear h;refine aC ?_;refine aT ?_;refine⟨Ext.app _ _,?_⟩;unfold va;rw[if_pos hp];rfl
theorem mulR{be bl:Nat}{g:El f}(hg:Gn (OkC.ok (f:=f)) g)(ha:ArH H g be bl)(x y:El f):Ev cp lo 170 [arV f be bl,.int .i64 (x.val:Nat),.int .i64 (y.val:Nat)] H (fun v H'=>Ext H H'/\v=.int .i64 ((x*y).val:Nat)):=by
 have h2:=qle (f:=f);have hx:=x.lt;have hy:=y.lt;have hbl:=ha.lt;obtain⟨⟨E,gE,hE,hEa⟩,⟨L,gL,hL,hLa⟩⟩:=ha;unfold arV;refine stG rfl rfl ?_;unfold Ih;simp only[kB,aB];refine aC ?_;refine aS ?_ ?_<;>intro h
 ·have hz:x*y=0:=by
   have:x.val=0\/y.val=0:=by simp at h;omega
   rcases this with h1|h1
   ·rw[eR h1,zero_mul]
   ·rw[eR h1,mul_zero]
  clear h;refine aC ?_;refine aT ?_;exact⟨Ext.app _ _,by rw[hz];rfl⟩
 have hnz:¬ x.val=0/\¬ y.val=0:=by simp at h;omega
 clear h;obtain⟨i,hi,rfl⟩:=pow_sur (kN hg) (dv hg) (x:=x) (fun e=>hnz.1 (by rw[e];rfl));obtain⟨j,hj,rfl⟩:=pow_sur (kN hg) (dv hg) (x:=y) (fun e=>hnz.2 (by rw[e];rfl));have li:=hLa i hi;have lj:=hLa j hj;have hml:(i+j)%(f.q-1)<f.q-1:=Nat.mod_lt _ byO;have hev:=hEa _ hml;have hmod:((i:Int)+(j:Int)).tmod ((f.q:Int)-1)=(((i+j)%(f.q-1):Nat):Int):=by
  rw[Int.tmod_eq_emod_of_nonneg byO,show((i:Int)+j)=((i+j:Nat):Int) by omega,show((f.q:Int)-1)=((f.q-1:Nat):Int) by omega];rfl
 have hE2:E.length<=f.q-1/\f.q-1<=E.length:=byO;have hL2:L.length<=f.q/\f.q<=L.length:=byO;clear hE hL hEa hLa hnz;rw[<-G8 (dv hg) (i:=i) (j:=j)];refine aC ?_;refine aT ?_;exact⟨Ext.app _ _,rfl⟩
theorem Ns{be bl:Nat}{g:El f}(hg:Gn (OkC.ok (f:=f)) g)(ha:ArH H g be bl)(x y:El f)(hy0:y≠0):Ev cp lo 172 [arV f be bl,.int .i64 (x.val:Nat),.int .i64 (y.val:Nat)] H (fun v H'=>Ext H H'/\v=.int .i64 ((x*inv y).val:Nat)):=by
 have h2:=qle (f:=f);have hx:=x.lt;have hy:=y.lt;have hbl:=ha.lt;obtain⟨⟨E,gE,hE,hEa⟩,⟨L,gL,hL,hLa⟩⟩:=ha;unfold arV;refine stG rfl rfl ?_;unfold Ij;simp only[kB,aB];refine aC ?_;refine aS ?_ ?_<;>intro h
 ·have hz:x*inv y=0:=by
   have:x.val=0:=by simp at h;omega
   rw[eR this,zero_mul]
  clear h;refine aC ?_;refine aT ?_;exact⟨Ext.app _ _,by rw[hz];rfl⟩
 have hnz:¬ x.val=0:=by simp at h;omega
 clear h;obtain⟨i,hi,rfl⟩:=pow_sur (kN hg) (dv hg) (x:=x) (fun e=>hnz (by rw[e];rfl));obtain⟨j,hj,rfl⟩:=pow_sur (kN hg) (dv hg) (x:=y) hy0;have li:=hLa i hi;have lj:=hLa j hj;have hml:(i+(f.q-1)-j)%(f.q-1)<f.q-1:=Nat.mod_lt _ byO;have hev:=hEa _ hml;have hmod:((i:Int)-(j:Int)+(f.q:Int)-1).tmod ((f.q:Int)-1)=(((i+(f.q-1)-j)%(f.q-1):Nat):Int):=by
  rw[Int.tmod_eq_emod_of_nonneg byO,show((i:Int)-j+f.q-1)=((i+(f.q-1)-j:Nat):Int) by omega,show((f.q:Int)-1)=((f.q-1:Nat):Int) by omega];rfl
 have hE2:E.length<=f.q-1/\f.q-1<=E.length:=byO;have hL2:L.length<=f.q/\f.q<=L.length:=byO;clear hE hL hEa hLa hnz;rw[<-K6 (dv hg) hi hj];refine aC ?_;refine aT ?_;exact⟨Ext.app _ _,rfl⟩
theorem Bg{be bl:Nat}(x y:El f):Ev cp lo 171 [arV f be bl,.int .i64 (x.val:Nat),.int .i64 (y.val:Nat)] H (fun v H'=>Ext H H'/\v=.int .i64 ((x+y).val:Nat)):=by
 have h2:=qle (f:=f);have hx:=x.lt;have hy:=y.lt;have hc:=pq (OkC.ok (f:=f));rw[val_add];have e1:=iI (a:=x.val) (b:=y.val) byO byO;have e2:((x.val:Int)+(y.val:Int)).tmod (f.q:Int)=(((x.val+y.val)%f.q:Nat):Int):=by
  rw[Int.tmod_eq_emod_of_nonneg byO];rfl
 unfold arV;refine stG rfl rfl ?_;unfold Ii;simp only[kB,aB];refine aC ?_;refine aS ?_ ?_<;>intro h
 ·have hp:f.poly≠0:=hc.1 (by simp at h;omega)
  clear h;refine aC ?_;refine aT ?_;refine⟨Ext.app _ _,?_⟩;unfold ek;rw[if_neg hp];rfl
 ·have hp:f.poly=0:=by
   apply Decidable.byContradiction;intro h0;have:=hc.2 h0;simp at h;omega
  clear h;refine aC ?_;refine aT ?_;refine⟨Ext.app _ _,?_⟩;unfold ek;rw[if_pos hp];rfl
theorem qu{be bl:Nat}{g:El f}(hg:Gn (OkC.ok (f:=f)) g)(ha:ArH H g be bl)(n:Nat)(hn:n<=1000000000000):Ev cp lo 103 [arV f be bl,.int .i64 n] H (fun v H'=>Ext H H'/\v=.int .i64 ((pw g n).val:Nat)):=by
 have h2:=qle (f:=f);have hbl:=ha.lt;obtain⟨⟨E,gE,hE,hEa⟩,_⟩:=ha;have hml:n%(f.q-1)<f.q-1:=Nat.mod_lt _ byO;have hev:=hEa _ hml;have hmod:(n:Int).tmod ((f.q:Int)-1)=((n%(f.q-1):Nat):Int):=by
  rw[Int.tmod_eq_emod_of_nonneg byO,show((f.q:Int)-1)=((f.q-1:Nat):Int) by omega];rfl
 have hE2:E.length<=f.q-1/\f.q-1<=E.length:=byO;clear hE hEa;rw[<-ua (dv hg).2.1 n];unfold arV;refine stG rfl rfl ?_;unfold Hm;simp only[kB,aB];refine aC ?_;refine aT ?_;exact⟨Ext.app _ _,rfl⟩
end
open Go.Abs Go.RS
section
variable {f:FD}[OkC f]
def pF(x:El f):Value:=.int .i64 (x.val:Nat)
def elL(l:List (El f)):List Value:=l.map pF
abbrev SlE(H:Heap)(v:Value)(l:List (El f)):Prop:=Sl (pF (f:=f)) H v l
theorem bq(l:List (El f)):(elL l).length=l.length:=by simp[elL]
theorem iU{l:List (El f)}{i:Nat}(h:i<l.length):(elL l)[i]?=some (.int .i64 ((l.getD i 0).val:Nat)):=by
 simp[elL,pF,bb₀ h,au₀]
theorem eQ(l:List (El f))(i:Nat)(v:El f):(elL l).set i (.int .i64 (v.val:Nat))=elL (l.set i v):=by simp[elL,pF,List.map_set]
theorem fj(n:Nat):bN (List.replicate n 0)=elL (List.replicate n (0:El f)):=by
 simp[elL,bN,pF,lJ]
theorem dV{l:List (El f)}(h:SlE H v l)(hl:0<l.length):∃b o sp cap xs,v=.slice (some ⟨b,o,sp⟩) l.length cap/\H.get b=some xs/\(∀i,i<l.length->xs[o+i]?=some (.int .i64 ((co l i).val:Nat)))/\o+l.length<=xs.length:=by
 obtain⟨b,o,sp,cap,xs,h1,h2,h3,h4⟩:=h.els 0 hl;exact⟨b,o,sp,cap,xs,h1,h2,h3,h4⟩
theorem bK{b n:Nat}{sp:Option Nat}{l:List (El f)}(h:H.get b=some (elL l))(hn:l.length=n)(hsp:sp=none\/sp=some 1:=by first|exact .inl rfl|exact .inr rfl):SlE H (.slice (some ⟨b,0,sp⟩) n n) l:=Sl.whole h hn hsp
theorem qR{l:List (El f)}{i:Nat}(h:i<l.length)(x:El f):hor (l.drop i) x=hor (l.drop (i+1)) x*x+co l i:=by
 rw[List.drop_eq_getElem_cons h,px h];rfl
namespace XGf
def xtr:=zzi @Int.cast_ofNat_Int (zzi @arC.eq_1 (zzi @iU (zzi @bq (zzi @eQ @fj))))
end XGf
open XGf
theorem yV{be bl:Nat}{g:El f}{p:List (El f)}(hlo:lo<=H.length)(hg:Gn (OkC.ok (f:=f)) g)(ha:ArH H g be bl)(hp:SlE H v p)(hpl:p.length<=1000000000)(x:El f):Ev cp lo 168 [arV f be bl,v,.int .i64 (x.val:Nat)] H (fun v H'=>Ext H H'/\v=.int .i64 ((hor p x).val:Nat)):=by
 have hp0:=hp;obtain⟨ad,c,rfl⟩:=hp.len;unfold arV;refine stG rfl rfl ?_;unfold If;simp only[kB,aB];refine aC ?_;generalize hG:H++[some [Value.int .i64 (FD.ch f:Nat),Value.int .i64 (f.q:Nat),Value.slice (some ⟨be,0,none⟩) (f.q-1) (f.q-1),Value.slice (some ⟨bl,0,none⟩) f.q f.q]]=G at *;have g0:G.get H.length=some (arC f be bl):=by rw[<-hG];exact aK
 have hxG:Ext H G:=by rw[<-hG];exact Ext.app _ _
 clear hG;refine aY (fun m S H'=>∃(k:Nat) (z0 z7 z8 z9 z10:Value),k<=p.length/\m=k/\Ext H H'/\H'.get H.length=some (arC f be bl)/\S=[z0,.slice ad p.length c,.int .i64 (x.val:Nat),.pointer (some ⟨H.length,0,none⟩),.int .i64 0,.int .i64 ((hor (p.drop k) x).val:Nat),.int .i64 ((k:Int)-1),z7,z8,z9,z10]) p.length ?_ ?_
 ·exact⟨p.length,_,_,_,_,_,Nat.le_refl _,rfl,hxG,g0,by rw[List.drop_length];rfl⟩
 clear g0 hxG;rintro m S H1 ⟨k,z0,z7,z8,z9,z10,hk,rfl,hx1,g0,rfl⟩;have hl1:=hx1.1;(try simp only[aB]);refine aS ?_ ?_<;>intro h
 ·have hm0:0<m:=by simp at h;omega
  clear h;obtain⟨n,rfl⟩:∃n,m=n+1:=⟨m-1,byO⟩;have hn:n<p.length:=byO;obtain⟨b,o,sp,cap,xs,e,gx,hat,hxl⟩:=dV hp0 byO;cases e;have gx:=hx1.get gx;have hati:=hat n hn;have e1:(((n+1:Nat):Int)-1)=(n:Int):=byO;have hfd:=qR hn x;rw[e1];clear hat;(try simp only[aB]);refine aQ ?_;refine aN (mulR hg (ha.mono hx1) (hor (p.drop (n+1)) x) x) ?_;rintro v H2 ⟨hx2,rfl⟩;have g0:=hx2.get g0;have hx2:=hx1.trans hx2;have hl2:=hx2.1;(try simp only[aB]);refine aQ ?_;refine aA (Bg _ (co p n)) ?_;rintro v H3 ⟨hx3,rfl⟩;have g0:=hx3.get g0;have hx3:=hx2.trans hx3;refine aC ?_;simp only[ak];exact⟨n,byO,n,_,_,_,_,_,byO,rfl,hx3,g0,by rw[hfd]⟩
 ·have hm0:m=0:=by simp at h;omega
  clear h;subst hm0;refine aC ?_;refine aT ?_;exact⟨hx1,rfl⟩
theorem zP(a b:Nat):aJ (.minmax true) [.int .i64 (a:Int),.int .i64 (b:Int)] H=some (.int .i64 ((max a b:Nat):Int)):=by
 rw[xn];congr 2;split<;>omega
theorem uh{d:Nat}{c:List Value}(h:H.get d=some c):H.set d (some c)=H:=by
 have hl:=Heap.get_lt h;apply List.ext_getElem (by simp);intro i h1 h2;rw[List.getElem_set];split
 ·rename_i e
  subst e;rw[en,bb₀ hl]at h;revert h;cases H[d]with
  | none=>intro h;simp at h
  | some x=>intro h;simp at h;rw[h]
 ·rfl
theorem td(l:List (El f)):oneCells (elL l)=true:=by simp[elL,pF,oneCells,Value.oneCell']
theorem HZ{p D:List (El f)}{d n c:Nat}{R:Value->Heap->Prop}(hlo:lo<=d)(hd:H.get d=some (elL D))(hn:D.length=n)(hp:SlE H v p)(hl:p.length<=D.length)(k:∀w,R w (H.set d (some (elL (p++D.drop p.length))))):wpH cp lo (.cpy 1) [.slice (some ⟨d,0,none⟩) n c,v] H R:=by
 simp only[wpH];rcases hp with ⟨rfl,rfl⟩|⟨b,o,sp,cap,xs,rfl,hb,hx,hlen,-⟩
 ·simp only[dP,hsem,if_true]
  have:=k (.int .i64 0);simp only[an₀,List.drop_zero,List.nil_append]at this;rwa [uh hd]at this
 ·rw[DO hlo,hb,hd]
  have hx2:(xs.drop o).take p.length=elL p:=hx;have hmin:min p.length n*1=p.length:=byO;simp only[hmin,hlen,hx2,td,and_self,if_true,Nat.zero_add,bq,hl];have hpc:putCells (elL D) 0 (elL p)=elL (p++D.drop p.length):=by
   simp[putCells,elL]
  rw[hpc];exact k _
theorem ux(p:List (El f)){N:Nat}(h:p.length<=N):p++(List.replicate N (0:El f)).drop p.length=tab N (co p):=by
 apply M1
 ·simp;omega
 ·intro i hi
  unfold co;rw[au₀,au₀];by_cases hlt:i<p.length
  ·rw[ax₀ hlt]
  ·rw[aw₀ byO,av₀ (l:=p) byO]
   simp only[List.getElem?_drop,List.getElem?_replicate];split<;>rfl
noncomputable def mE(p q:List (El f))(n:Nat)(c:El f):List (El f):=tab (max p.length (q.length+n)) (fun i=>co p i-c*sh n (co q) i)
set_option maxHeartbeats 1000000 in
theorem zg{be bl:Nat}{g:El f}{vp vq:Value}{p q:List (El f)}(hlo:lo<=H.length)(hg:Gn (OkC.ok (f:=f)) g)(ha:ArH H g be bl)(hp:SlE H vp p)(hq:SlE H vq q)(hpl:p.length<=100000000)(hql:q.length<=100000000)(n:Nat)(hn:n<=100000000)(c:El f) :
  Ev cp lo 164 [arV f be bl,vp,vq,.int .i64 n,.int .i64 (c.val:Nat)] H (fun v H'=>Ext H H'/\∃b,H.length<=b/\v=.slice (some ⟨b,0,none⟩) (mE p q n c).length (mE p q n c).length/\H'.get b=some (elL (mE p q n c))):=by
 have hp0:=hp;have hq0:=hq;have hrl:(mE p q n c).length=max p.length (q.length+n):=aG _ _;obtain⟨ap,cp',rfl⟩:=hp.len;obtain⟨aq,cq,rfl⟩:=hq.len;have hmx:=fun(H:Heap)=>zP (H:=H) p.length (q.length+n);rw[hrl];unfold arV;have hN:max p.length (q.length+n)<=200000000:=byO;have hcast:((q.length:Int)+(n:Int))=((q.length+n:Nat):Int):=byO;refine stG rfl rfl ?_;unfold Ia;simp only[kB,aB];refine aC ?_;generalize hG:H++_=G at *;have g0:G.get H.length=some (arC f be bl):=by rw[<-hG];exact aK
 have g1:G.get (H.length+1)=some (elL (List.replicate (max p.length (q.length+n)) (0:El f))):=by rw[<-hG];exact bI
 have hxG:Ext H G:=by rw[<-hG];exact Ext.app _ _
 clear hG;have hl1:=Heap.get_lt g1;refine aQ ?_;refine HZ byO g1 (by simp) (hp0.mono hxG) (by simp;omega) ?_;intro w;rw[ux p byO];generalize hG2:G.set (H.length+1) _=G2;have g0:Heap.get G2 H.length=some (arC f be bl):=by rw[<-hG2,aH byO];exact g0
 have g1:Heap.get G2 (H.length+1)=some (elL (tab (max p.length (q.length+n)) (co p))):=by rw[<-hG2,aF byO]
 have hxG:Ext H G2:=by rw[<-hG2];exact hxG.set byO
 clear hG2 hl1;have hNq:q.length+n<=max p.length (q.length+n):=byO;generalize hNe:max p.length (q.length+n)=N at *;refine aC ?_;refine aa (fun i S H'=>Ext H H'/\H'.get H.length=some (arC f be bl)/\H'.get (H.length+1)=some (elL (tab N (fun k=>if n<=k/\k<n+i then co p k-c*co q (k-n) else co p k)))/\∃(z:Nat->Value),S=[z 0,z 1,z 2,.int .i64 (n:Nat),.int .i64 (c.val:Nat),.pointer (some ⟨H.length,0,none⟩),.slice none 0 0,.slice (some ⟨H.length+1,0,none⟩) N N,z 8,z 9,z 10,.slice aq q.length cq,.int .i64 (q.length:Nat),.int .i64 (i:Nat),z 14,z 15,z 16,z 17,z 18,z 19]) q.length ?_ ?_ ?_ ?_
 ·exact⟨hxG,g0,by rw[g1];congr 2;exact ah (fun k _=>(if_neg (show ¬ (n<=k/\k<n+0) by omega)).symm),aR rfl⟩
 ·rintro i S H' hi ⟨hx,f0,f1,z,rfl⟩
  exact⟨_,aW,by simp⟩
 ·clear g0 g1 hxG
  rintro i S H1 hi ⟨hx1,f0,f1,z,rfl⟩;obtain⟨b,o,sp,cap,xs,e,gx,hat,hxl⟩:=dV hq0 byO;cases e;have gx:=hx1.get gx;have hati:=hat i hi;have hlen:=aG N (fun k=>if n<=k/\k<n+i then co p k-c*co q (k-n) else co p k);have hlen2:(tab N (fun k=>if n<=k/\k<n+i then co p k-c*co q (k-n) else co p k)).length<=N/\N<=(tab N (fun k=>if n<=k/\k<n+i then co p k-c*co q (k-n) else co p k)).length:=byO;have hget:(tab N (fun k=>if n<=k/\k<n+i then co p k-c*co q (k-n) else co p k)).getD (i+n) 0=co p (i+n):=by
   rw[eW byO,if_neg byO]
  have hset:(tab N (fun k=>if n<=k/\k<n+i then co p k-c*co q (k-n) else co p k)).set (i+n) (co p (i+n)-c*co q i)=tab N (fun k=>if n<=k/\k<n+(i+1) then co p k-c*co q (k-n) else co p k):=by
   rw[kF];refine ah fun k hk=>?_;by_cases e:k=i+n
   ·rw[if_pos e,if_pos byO,e,show i+n-n=i by omega]
   ·rw[if_neg e]
    by_cases h2:n<=k/\k<n+i
    ·rw[if_pos h2,if_pos byO]
    ·rw[if_neg h2,if_neg byO]
  generalize tab N (fun k=>if n<=k/\k<n+i then co p k-c*co q (k-n) else co p k)=T at *;have hin:((i:Int)+(n:Int))=((i+n:Nat):Int):=byO;have hl1:=Heap.get_lt f1;clear hat hlen;refine aC ?_;refine aQ ?_;refine aN (mulR hg (ha.mono hx1) c (co q i)) ?_;rintro v H2 ⟨hx2,rfl⟩;have f0:=(hx2).get f0;have f1:=(hx2).get f1;have hx2:=hx1.trans hx2;(try simp only[aB]);refine aQ ?_;refine aA (Ry (co p (i+n)) (c*co q i)) ?_;rintro v H3 ⟨hx3,rfl⟩;have f0:=(hx3).get f0;have f1:=(hx3).get f1;have hx3:=hx2.trans hx3;have hl3:=Heap.get_lt f1;clear hget;refine aC ?_;exact⟨hx3.set (by omega),by simp(disch:=try exact dO)only[evB,xtr,Nat.reduceAdd,Nat.reduceBEq, *],by rw[aF (by omega)],aR ncM⟩
 ·rintro S H1 ⟨hx1,f0,f1,z,rfl⟩
  refine aC ?_;refine aT ?_;refine⟨hx1,H.length+1,byO,rfl,?_⟩;rw[f1];unfold mE;rw[hNe];congr 2;refine ah fun k hk=>?_;by_cases h1:n<=k/\k<n+q.length
  ·rw[if_pos h1,ja _ h1.1]
  ·rw[if_neg h1]
   by_cases h2:n<=k
   ·rw[ja _ h2,kW (l:=q) byO,mul_zero]
    exact(show(co p k)=((co p k)-0) from bu [(co p k)] (.v 0) (.add (.v 0) (.neg .zero)) rfl)
   ·rw[ky _ byO,mul_zero]
    exact(show(co p k)=((co p k)-0) from bu [(co p k)] (.v 0) (.add (.v 0) (.neg .zero)) rfl)
end
open Go.Abs Go.RS
section
variable {f:FD}[OkC f]
theorem bV{H G:Heap}{c:List Value}{L:Heap}(h:H++some c::L=G):G.get H.length=some c/\Ext H G:=by
 subst h;exact⟨aK,Ext.app _ _⟩
open XGf
set_option maxHeartbeats 2000000 in
theorem qw{be bl:Nat}{g:El f}{vp vq:Value}{p q:List (El f)}(hlo:lo<=H.length)(hg:Gn (OkC.ok (f:=f)) g)(ha:ArH H g be bl)(hp:SlE H vp p)(hq:SlE H vq q)(hpl:p.length<=100000000)(hql:q.length<=100000000)(n:Nat)(hn:n<=100000000) :
  Ev cp lo 166 [arV f be bl,vp,vq,.int .i64 n] H (fun v H'=>Ext H H'/\∃b,H.length<=b/\v=.slice (some ⟨b,0,none⟩) n n/\H'.get b=some (elL (tab n (cv (co p) (co q))))):=by
 have hp0:=hp;have hq0:=hq;obtain⟨ap,cp',rfl⟩:=hp.len;obtain⟨aq,cq,rfl⟩:=hq.len;unfold arV;refine stG rfl rfl ?_;unfold Ic;simp only[kB,aB];refine aC ?_;generalize hG:H++_=G at *;have g0:G.get H.length=some (arC f be bl):=by rw[<-hG];exact aK
 have g1:G.get (H.length+1)=some (elL (tab n (fun _=>(0:El f)))):=by rw[<-hG,bI,fA];rfl
 have hxG:Ext H G:=by rw[<-hG];exact Ext.app _ _
 clear hG;refine aa (fun i S H'=>Ext H H'/\H'.get H.length=some (arC f be bl)/\H'.get (H.length+1)=some (elL (tab n (rows (co p) (co q) i)))/\∃(z:Nat->Value),S=[z 0,z 1,.slice aq q.length cq,.int .i64 (n:Nat),.pointer (some ⟨H.length,0,none⟩),.slice none 0 0,.slice (some ⟨H.length+1,0,none⟩) n n,z 7,z 8,z 9,z 10,.slice ap p.length cp',.int .i64 (p.length:Nat),.int .i64 (i:Nat),z 14,z 15,z 16,z 17,z 18,z 19]) p.length ?_ ?_ ?_ ?_
 ·exact⟨hxG,g0,g1,aR rfl⟩
 ·rintro i S H' hi ⟨hx,f0,f1,z,rfl⟩
  exact⟨_,aW,by simp⟩
 ·clear g0 g1 hxG
  rintro i S H1 hi ⟨hx1,f0,f1,z,rfl⟩;obtain⟨b,o,sp,cap,xs,e,gx,hat,hxl⟩:=dV hp0 byO;cases e;have gx1:=hx1.get gx;have hati:=hat i hi;have hl1:=Heap.get_lt f1;have hbH:=Heap.get_lt gx;clear hat;refine aC ?_;clear hati;refine aa (fun j S H'=>Ext H H'/\H'.get H.length=some (arC f be bl)/\H'.get (H.length+1)=some (elL (tab n (fun k=>rows (co p) (co q) i k+(if i<=k/\k<i+j then co p i*co q (k-i) else 0))))/\∃(z:Nat->Value),S=[z 0,z 1,.slice aq q.length cq,.int .i64 (n:Nat),.pointer (some ⟨H.length,0,none⟩),.slice none 0 0,.slice (some ⟨H.length+1,0,none⟩) n n,.int .i64 (i:Nat),.int .i64 ((co p i).val:Nat),.int .i64 (j:Nat),z 10,.slice (some ⟨b,o,sp⟩) p.length cp',.int .i64 (p.length:Nat),.int .i64 (i:Nat),z 14,z 15,z 16,z 17,z 18,z 19]) (min q.length (n-i)) ?_ ?_ ?_ ?_
  ·refine⟨hx1,f0,?_,aR rfl⟩
   rw[f1];congr 2;refine ah fun k _=>?_;rw[if_neg byO,add_zero]
  ·rintro j S H' hj ⟨hx,f0,f1,z,rfl⟩
   exact⟨_,aW,by simp;omega⟩
  ·clear f0 f1 hl1 gx1 hx1
   rintro j S H1 hj ⟨hx1,f0,f1,z,rfl⟩;obtain⟨b',o',sp',cap',ys,e',gy,hay,hyl⟩:=dV hq0 byO;cases e';have gy:=hx1.get gy;have hayj:=hay j byO;have hget:(tab n (fun k=>rows (co p) (co q) i k+(if i<=k/\k<i+j then co p i*co q (k-i) else 0))).getD (i+j) 0=rows (co p) (co q) i (i+j):=by
    rw[eW byO,if_neg byO,add_zero]
   have hset:(tab n (fun k=>rows (co p) (co q) i k+(if i<=k/\k<i+j then co p i*co q (k-i) else 0))).set (i+j) (rows (co p) (co q) i (i+j)+co p i*co q j)=tab n (fun k=>rows (co p) (co q) i k+(if i<=k/\k<i+(j+1) then co p i*co q (k-i) else 0)):=by
    rw[kF];refine ah fun k hk=>?_;by_cases e:k=i+j
    ·rw[if_pos e,if_pos byO,e,show i+j-i=j by omega]
    ·rw[if_neg e]
     by_cases h2:i<=k/\k<i+j
     ·rw[if_pos h2,if_pos byO]
     ·rw[if_neg h2,if_neg byO]
   have hlen2:(tab n (fun k=>rows (co p) (co q) i k+(if i<=k/\k<i+j then co p i*co q (k-i) else 0))).length<=n/\n<=(tab n (fun k=>rows (co p) (co q) i k+(if i<=k/\k<i+j then co p i*co q (k-i) else 0))).length:=by rw[aG];omega
   generalize tab n (fun k=>rows (co p) (co q) i k+(if i<=k/\k<i+j then co p i*co q (k-i) else 0))=T at *;have hin:((i:Int)+(j:Int))=((i+j:Nat):Int):=byO;have hl1:=Heap.get_lt f1;clear hay;refine aC ?_;refine aQ ?_;refine aN (mulR hg (ha.mono hx1) (co p i) (co q j)) ?_;rintro v H2 ⟨hx2,rfl⟩;have f0:=(hx2).get f0;have f1:=(hx2).get f1;have hx2:=hx1.trans hx2;(try simp only[aB]);refine aQ ?_;refine aA (Bg (rows (co p) (co q) i (i+j)) (co p i*co q j)) ?_;rintro v H3 ⟨hx3,rfl⟩;have f0:=(hx3).get f0;have f1:=(hx3).get f1;have hx3:=hx2.trans hx3;have hl3:=Heap.get_lt f1;clear hget;refine aC ?_;exact⟨hx3.set (by omega),by simp(disch:=try exact dO)only[evB,xtr,Nat.reduceAdd,Nat.reduceBEq, *],by rw[aF (by omega)],aR ncM⟩
  ·clear f0 f1 hl1 gx1 hx1
   rintro S H1 ⟨hx1,f0,f1,z,rfl⟩;refine aC ?_;refine⟨hx1,f0,?_,aR ncM⟩;rw[f1];congr 2;refine ah fun k hk=>?_;rw[tD];congr 1;by_cases h1:i<=k
   ·rw[ja _ h1]
    by_cases h2:k<i+min q.length (n-i)
    ·rw[if_pos ⟨h1,h2⟩]
    ·rw[if_neg byO,kW (l:=q) byO,mul_zero]
   ·rw[if_neg byO,ky _ byO,mul_zero]
 ·rintro S H1 ⟨hx1,f0,f1,z,rfl⟩
  refine aC ?_;refine aT ?_;refine⟨hx1,H.length+1,byO,rfl,?_⟩;rw[f1];congr 2;exact ah fun k hk=>zi (fun i hi=>kW hi) k
theorem zV:∀i:Nat,(nsm (1:El f) i).val=i%FD.ch f
 | 0=>by rw[Nat.zero_mod];rfl
 | i+1=>by
  have h:=zV i;show(nsm (1:El f) i+1).val=_;rw[val_add,h,Eo];unfold ek FD.ch;rcases(OkC.ok (f:=f))with ⟨e,h1,_⟩|⟨e,_⟩
  ·rw[if_pos e,if_pos e,Nat.mod_add_mod]
  ·rw[if_neg e,if_neg e]
   rcases Nat.mod_two_eq_zero_or_one i with h2|h2
   ·rw[h2,show(i+1)%2=1 by omega];rfl
   ·rw[h2,show(i+1)%2=0 by omega];rfl
def NewV(n:Nat)(v:Value):Prop:=∀b o sp k c,v=.slice (some ⟨b,o,sp⟩) k c->n<=b
theorem NewV.own{lo sz n b:Nat}{H:Heap}{v:Value}{c:List Value}(h:Own lo sz H v b c)(hn:n<=b):NewV n v:=by
 intro b' o sp k c' e;obtain⟨_,⟨rfl,_⟩|⟨m,_,_,rfl,_⟩⟩:=h
 ·cases e
 ·cases e;exact hn
theorem NewV.mk{n b o:Nat}{sp:Option Nat}{k c:Nat}(h:n<=b):NewV n (.slice (some ⟨b,o,sp⟩) k c):=by
 intro b' o' sp' k' c' e;cases e;exact h
theorem NewV.mono{n m:Nat}{v:Value}(h:NewV n v)(hm:m<=n):NewV m v:=fun b o sp k c e=>Nat.le_trans hm (h b o sp k c e)
theorem eE{α:Type}{enc:α->Value}{H H':Heap}{l:List α}{n b:Nat}(h:Sl enc H v l)(hn:NewV n v)(e:Keep b H H')(hb:b<n):Sl enc H' v l:=by
 rcases h with h|⟨b',o,sp,cap,xs,h1,h2,h3⟩
 ·exact .inl h
 ·have:=hn _ _ _ _ _ h1
  exact .inr ⟨b',o,sp,cap,xs,h1,e.get h2 byO,h3⟩
noncomputable def K4(p:List (El f)):List (El f):=tab (p.length-1) (fun k=>nsm 1 (k+1)*co p (k+1))
theorem vT{be bl:Nat}{g:El f}{p:List (El f)}(hlo:lo<=H.length)(hg:Gn (OkC.ok (f:=f)) g)(ha:ArH H g be bl)(hp:SlE H v p)(hpl:p.length<=100000000)(hp1:1<=p.length):Ev cp lo 169 [arV f be bl,v] H (fun v H'=>Ext H H'/\SlE H' v (K4 p)/\NewV H.length v):=by
 have hp0:=hp;have h2:=qle (f:=f);have hch:2<=FD.ch f:=by unfold FD.ch;split<;>omega
 obtain⟨ad,c,rfl⟩:=hp.len;unfold arV;refine stG rfl rfl ?_;unfold Ig;simp only[kB,aB];refine aC ?_;generalize hG:H++_=G at *;have g0:G.get H.length=some (arC f be bl):=by rw[<-hG];exact aK
 have hxG:Ext H G:=by rw[<-hG];exact Ext.app _ _
 have hGl:G.length=H.length+1:=by rw[<-hG];simp
 clear hG;refine aa (fun i S H'=>Ext H H'/\H'.get H.length=some (arC f be bl)/\∃vd bd,H.length<bd/\Own lo 1 H' vd bd (elL (tab i (fun k=>nsm 1 (k+1)*co p (k+1))))/\∃(z:Nat->Value),S=[z 0,.slice ad p.length c,.pointer (some ⟨H.length,0,none⟩),.slice none 0 0,vd,.int .i64 ((i+1:Nat):Int),z 6,z 7,z 8,z 9]) (p.length-1) ?_ ?_ ?_ ?_
 ·exact⟨hxG,g0,_,H.length+1,byO,Own.nil byO,aR rfl⟩
 ·rintro i S H' hi ⟨hx,f0,vd,bd,hbd,hown,z,rfl⟩
  exact⟨_,aW,by simp;omega⟩
 ·clear g0 hxG
  rintro i S H1 hi ⟨hx1,f0,vd,bd,hbd,hown,z,rfl⟩;obtain⟨b,o,sp,cap,xs,e,gx,hat,hxl⟩:=dV hp0 byO;cases e;have gx:=hx1.get gx;have hati:=hat (i+1) byO;have hl1:=hx1.1;have hmod:((i+1:Nat):Int).tmod (FD.ch f:Int)=((nsm (1:El f) (i+1)).val:Nat):=by
   rw[zV,Int.tmod_eq_emod_of_nonneg byO];rfl
  have hlt:((i+1:Nat):Int)<p.length:=byO;clear hat;(try simp only[aB]);refine aQ ?_;refine aA (mulR hg (ha.mono hx1) (nsm 1 (i+1)) (co p (i+1))) ?_;rintro v H2 ⟨hx2,rfl⟩;have f0:=hx2.get f0;have hown:=hown.mono hx2;have hx2:=hx1.trans hx2;have hl2:=hx2.1;have hml:=aG i (fun k=>nsm (1:El f) (k+1)*co p (k+1));refine aC ?_;refine aQ ?_;refine dG (c:=[pF (nsm 1 (i+1)*co p (i+1))]) (hown.mono (Ext.app _ _)) (by simp;omega) byO byO (by rw[bq,hml];omega) aK (by simp) rfl rfl ?_;rintro v' H3 hown3 hk hl3;have hE:=Ext.app H2 [some [Value.int .i64 ((nsm (1:El f) (i+1)*co p (i+1)).val:Nat)]];have hx3:=hk.ext (hx2.trans hE) byO;have f0:=hk.get (hE.get f0) byO;simp only[as₀,ak₀,an₀]at hown3;refine aC ?_;refine⟨hx3,f0,_,H2.length+(0+1),byO,?_,aR ncM⟩
  ·have e:elL (tab (i+1) (fun k=>nsm (1:El f) (k+1)*co p (k+1)))=elL (tab i (fun k=>nsm 1 (k+1)*co p (k+1)))++[pF (nsm 1 (i+1)*co p (i+1))]:=by
    simp[elL,tab,List.range_succ]
   rw[e];exact hown3
 ·rintro S H1 ⟨hx1,f0,vd,bd,hbd,hown,z,rfl⟩
  refine aC ?_;refine aT ?_;exact⟨hx1,Sl.ofOwn hown,NewV.own hown byO⟩
end
def cdC(f:FD)(r b:Nat):List Value:=[.int .i64 (FD.ch f:Nat),.int .i64 (f.q:Nat),.int .i64 (f.poly:Nat),.int .i64 r,.int .i64 b]
def cdV(f:FD)(r b:Nat):Value:=.agg #[.int .i64 (FD.ch f:Nat),.int .i64 (f.q:Nat),.int .i64 (f.poly:Nat),.int .i64 r,.int .i64 b]
section
variable {f:FD}[OkC f]
noncomputable def ef(g:El f)(r b:Nat)(w:List (El f)):List (El f):=tab r (fun i=>c9 w (pw g (b+i)))
namespace XGh
def xtr:=zzi @Int.cast_ofNat_Int (zzi @arC.eq_1 (zzi @cdC.eq_1 (zzi @iU (zzi @bq (zzi @eQ @fj)))))
end XGh
open XGh
set_option maxHeartbeats 2000000 in
theorem rR{be bl:Nat}{g:El f}{w:List (El f)}(hlo:lo<=H.length)(hg:Gn (OkC.ok (f:=f)) g)(ha:ArH H g be bl)(hw:SlE H v w)(hwl:w.length<=100000000)(r b:Nat)(hr:r<=100000000)(hb:b<=100000000) :
  Ev cp lo 163 [arV f be bl,cdV f r b,v] H (fun v H'=>Ext H H'/\∃bb,H.length<=bb/\v=.slice (some ⟨bb,0,none⟩) r r/\H'.get bb=some (elL (ef g r b w))):=by
 have hw0:=hw;obtain⟨aw,cw,rfl⟩:=hw.len;unfold arV cdV;refine stG rfl rfl ?_;unfold I9;simp only[kB,aB];refine aC ?_;generalize hG:H++_=G at *;have g0:G.get H.length=some (arC f be bl):=by rw[<-hG];exact aK
 have g1:G.get (H.length+1)=some (cdC f r b):=by rw[<-hG,bI];rfl
 have g2:G.get (H.length+2)=some (elL (tab r (fun _=>(0:El f)))):=by rw[<-hG,bI,fA];rfl
 have hxG:Ext H G:=by rw[<-hG];exact Ext.app _ _
 clear hG;refine aa (fun i S H'=>Ext H H'/\H'.get H.length=some (arC f be bl)/\H'.get (H.length+1)=some (cdC f r b)/\H'.get (H.length+2)=some (elL (tab r (fun k=>if k<i then c9 w (pw g (b+k)) else 0)))/\∃(z:Nat->Value),S=[z 0,z 1,.slice aw w.length cw,.pointer (some ⟨H.length,0,none⟩),.pointer (some ⟨H.length+1,0,none⟩),.slice none 0 0,.slice (some ⟨H.length+2,0,none⟩) r r,z 7,z 8,z 9,z 10,.int .i64 (r:Nat),.int .i64 (i:Nat),z 13,z 14,z 15,z 16,z 17,z 18,z 19,z 20,z 21,z 22]) r ?_ ?_ ?_ ?_
 ·refine⟨hxG,g0,g1,?_,aR rfl⟩
  rw[g2];refine congrArg (fun t=>some (elL t)) ?_;exact ah fun k _=>(if_neg byO).symm
 ·rintro i S H' hi ⟨hx,f0,f1,f2,z,rfl⟩
  exact⟨_,aW,by simp⟩
 ·clear g0 g1 g2 hxG
  rintro i S H1 hi ⟨hx1,f0,f1,f2,z,rfl⟩;have hl1:=hx1.1;have hbi:((b:Int)+(i:Int))=((b+i:Nat):Int):=byO;refine aC ?_;refine aQ ?_;refine aA (qu hg (ha.mono hx1) (b+i) byO) ?_;rintro v H2 ⟨hx2,rfl⟩;have f0:=(hx2).get f0;have f1:=(hx2).get f1;have f2:=(hx2).get f2;have hx2:=hx1.trans hx2;clear hbi;refine aC ?_;generalize hroot:pw g (b+i)=root at *;refine aa (fun j S H'=>Ext H H'/\H'.get H.length=some (arC f be bl)/\H'.get (H.length+1)=some (cdC f r b)/\H'.get (H.length+2)=some (elL (tab r (fun k=>if k<i then c9 w (pw g (b+k)) else if k=i then c9 (w.take j) root else 0)))/\∃(z:Nat->Value),S=[z 0,z 1,.slice aw w.length cw,.pointer (some ⟨H.length,0,none⟩),.pointer (some ⟨H.length+1,0,none⟩),.slice none 0 0,.slice (some ⟨H.length+2,0,none⟩) r r,.int .i64 (i:Nat),.int .i64 (root.val:Nat),z 9,z 10,.int .i64 (r:Nat),.int .i64 (i:Nat),z 13,.slice aw w.length cw,.int .i64 (w.length:Nat),.int .i64 (j:Nat),z 17,z 18,z 19,z 20,z 21,z 22]) w.length ?_ ?_ ?_ ?_
  ·refine⟨hx2,f0,f1,?_,aR rfl⟩
   rw[f2];congr 2;refine ah fun k _=>?_;by_cases h1:k<i
   ·rw[if_pos h1,if_pos h1]
   ·rw[if_neg h1,if_neg h1];split<;>rfl
  ·rintro j S H' hj ⟨hx,f0,f1,f2,z,rfl⟩
   exact⟨_,aW,by simp⟩
  ·clear f0 f1 f2 hx2 hx1 hl1
   rintro j S H1 hj ⟨hx1,f0,f1,f2,z,rfl⟩;obtain⟨bb,o,sp,cap,xs,e,gx,hat,hxl⟩:=dV hw0 byO;cases e;have gx:=hx1.get gx;have hatj:=hat j hj;have hl1:=Heap.get_lt f2;have hget:(tab r (fun k=>if k<i then c9 w (pw g (b+k)) else if k=i then c9 (w.take j) root else 0)).getD i 0=c9 (w.take j) root:=by
    rw[eW hi,if_neg byO,if_pos rfl]
   have hset:(tab r (fun k=>if k<i then c9 w (pw g (b+k)) else if k=i then c9 (w.take j) root else 0)).set i (c9 (w.take j) root*root+co w j)=tab r (fun k=>if k<i then c9 w (pw g (b+k)) else if k=i then c9 (w.take (j+1)) root else 0):=by
    rw[kF];refine ah fun k hk=>?_;by_cases e:k=i
    ·rw[if_pos e,if_neg byO,if_pos e,ki hj]
    ·rw[if_neg e,if_neg e,if_neg e]
   have hlen2:(tab r (fun k=>if k<i then c9 w (pw g (b+k)) else if k=i then c9 (w.take j) root else 0)).length<=r/\r<=(tab r (fun k=>if k<i then c9 w (pw g (b+k)) else if k=i then c9 (w.take j) root else 0)).length:=by rw[aG];omega
   generalize tab r (fun k=>if k<i then c9 w (pw g (b+k)) else if k=i then c9 (w.take j) root else 0)=T at *;clear hat;refine aC ?_;refine aQ ?_;refine aN (mulR hg (ha.mono hx1) (c9 (w.take j) root) root) ?_;rintro v H2 ⟨hx2,rfl⟩;have f0:=(hx2).get f0;have f1:=(hx2).get f1;have f2:=(hx2).get f2;have hx2:=hx1.trans hx2;(try simp only[aB]);refine aQ ?_;refine aA (Bg (c9 (w.take j) root*root) (co w j)) ?_;rintro v H3 ⟨hx3,rfl⟩;have f0:=(hx3).get f0;have f1:=(hx3).get f1;have f2:=(hx3).get f2;have hx3:=hx2.trans hx3;have hl3:=Heap.get_lt f2;clear hget;refine aC ?_;exact⟨hx3.set (by omega),by simp(disch:=try exact dO)only[evB,xtr,Nat.reduceAdd,Nat.reduceBEq, *],by simp(disch:=try exact dO)only[evB,xtr,Nat.reduceAdd,Nat.reduceBEq, *],by rw[aF (by omega)],aR ncM⟩
  ·clear f0 f1 f2 hx2 hx1 hl1
   rintro S H1 ⟨hx1,f0,f1,f2,z,rfl⟩;refine aC ?_;refine⟨hx1,f0,f1,?_,aR ncM⟩;rw[f2];congr 2;refine ah fun k hk=>?_;rw[List.take_length];by_cases h1:k<i
   ·rw[if_pos h1,if_pos byO]
   ·rw[if_neg h1]
    by_cases h2:k=i
    ·rw[if_pos h2,if_pos byO,<-hroot,h2]
    ·rw[if_neg h2,if_neg byO]
 ·rintro S H1 ⟨hx1,f0,f1,f2,z,rfl⟩
  refine aC ?_;refine aT ?_;refine⟨hx1,H.length+2,byO,rfl,?_⟩;rw[f2];congr 2;exact ah fun k hk=>if_pos hk
noncomputable def uF(s:List (El f)):List (El f):=trim (tab (bml (co s) s.length).1 (Reg.run (co s) s.length).C)
theorem yj{s:List (El f)}{n:Nat}(C:Ser (El f)){L lenC:Nat}(hdeg:dg C L)(hlen:∀i,lenC<=i->C i=0)(hL:L<=n):sm (min (L+1) lenC) (fun i=>C i*co s (n-i))=cv C (co s) n:=by
 unfold cv;exact(jR byO fun i h1 h2=>by
  by_cases h:lenC<=i
  ·rw[hlen i h,zero_mul]
  ·rw[hdeg i byO,zero_mul]).symm
theorem mR(s:Ser (El f)):∀n,(bml s n).1<=n+1/\(bml s n).2+(Reg.run s n).m<=n+2/\(Reg.run s n).L<=n
 | 0=>by simp[bml,Reg.run,Reg.init]
 | n+1=>by
  obtain⟨h1,h2,h3⟩:=mR s n;simp only[bml,Reg.run,Reg.next];split
  ·simp only;omega
  ·split
   ·rename_i h;simp only[if_pos h];omega
   ·rename_i h;simp only[if_neg h];omega
end
open Go.Abs Go.RS
section
variable {f:FD}[OkC f]
theorem rO(n:Nat)(F:Nat->El f):sm (n+1) F=sm n F+F n:=rfl
namespace XGi
def xtr:=zzi @Int.cast_ofNat_Int (zzi @arC.eq_1 (zzi @iU (zzi @bq (zzi @eQ (zzi @fj @ite_self.{1})))))
end XGi
open XGi
set_option maxHeartbeats 4000000 in
theorem DZ{be bl:Nat}{g:El f}{s:List (El f)}(hlo:lo<=H.length)(hg:Gn (OkC.ok (f:=f)) g)(ha:ArH H g be bl)(hs:SlE H v s)(hsl:s.length<=10000000) :
  Ev cp lo 167 [arV f be bl,v] H (fun v H'=>Ext H H'/\SlE H' v (uF s)/\NewV H.length v):=by
 have hs0:=hs;obtain⟨av,cv',rfl⟩:=hs.len;unfold arV;refine stG rfl rfl ?_;unfold Ie;simp only[kB,aB];refine aC ?_;generalize hG:H++_=G at *;have g0:G.get H.length=some (arC f be bl):=by rw[<-hG];exact aK
 have g1:G.get (H.length+1)=some (elL (tab 1 (s1:Ser (El f)))):=by rw[<-hG,bI];rfl
 have g2:G.get (H.length+2)=some (elL (tab 1 (s1:Ser (El f)))):=by rw[<-hG,bI];rfl
 have hxG:Ext H G:=by rw[<-hG];exact Ext.app _ _
 clear hG;refine aa (fun n S H'=>Ext H H'/\H'.get H.length=some (arC f be bl)/\∃b1 b2,(H.length<=b1/\H.length<=b2)/\H'.get b1=some (elL (tab (bml (co s) n).1 (Reg.run (co s) n).C))/\H'.get b2=some (elL (tab (bml (co s) n).2 (Reg.run (co s) n).B))/\∃z0 z9 z10 z11 z12 z13 z14 z15 z18 z19 z20 z21 z22 z23 z24 z25 z26 z27,S=[z0,.slice av s.length cv',.pointer (some ⟨H.length,0,none⟩),.slice none 0 0,.slice (some ⟨b1,0,none⟩) (bml (co s) n).1 (bml (co s) n).1,.slice (some ⟨b2,0,none⟩) (bml (co s) n).2 (bml (co s) n).2,.int .i64 ((Reg.run (co s) n).L:Nat),.int .i64 ((Reg.run (co s) n).m:Nat),.int .i64 ((Reg.run (co s) n).b.val:Nat),z9,z10,z11,z12,z13,z14,z15,.int .i64 (s.length:Nat),.int .i64 (n:Nat),z18,z19,z20,z21,z22,z23,z24,z25,z26,z27]) s.length ?_ ?_ ?_ ?_
 ·exact⟨hxG,g0,H.length+1,H.length+2,⟨byO,byO⟩,g1,g2,_,_,_,_,_,_,_,_,_,_,_,_,_,_,_,_,_,_,rfl⟩
 ·rintro n S H' hn ⟨hx,f0,b1,b2,hbb,f1,f2,z0,z9,z10,z11,z12,z13,z14,z15,z18,z19,z20,z21,z22,z23,z24,z25,z26,z27,rfl⟩
  exact⟨_,aW,by simp⟩
 ·clear g0 g1 g2 hxG
  rintro n S H1 hn ⟨hx1,f0,b1,b2,hbb,f1,f2,z0,z9,z10,z11,z12,z13,z14,z15,z18,z19,z20,z21,z22,z23,z24,z25,z26,z27,rfl⟩;have hinv:=gW (co s) n;obtain⟨hle1,hle2,hle3⟩:=mR (co s) n;obtain⟨hz1,hz2,hpos⟩:=nm (co s) n;have hd:=yj (s:=s) (n:=n) (Reg.run (co s) n).C hinv.gen.deg hz1 hle3;have hbml:=bml.eq_2 (co s) n;have hrun:Reg.run (co s) (n+1)=(Reg.run (co s) n).next (co s) n:=rfl;unfold Reg.next at hrun;have hb0:=hinv.b;have hmp:=hinv.mp;have hdeg:=hinv.gen.deg;clear hinv;generalize hR:Reg.run (co s) n=R at *;generalize hl1:(bml (co s) n).1=l1 at *;generalize hl2:(bml (co s) n).2=l2 at *;have hlen1:=aG l1 R.C;have hlen1':(tab l1 R.C).length<=l1/\l1<=(tab l1 R.C).length:=byO;clear hlen1;refine aC ?_;refine eo (fun S H'=>Ext H H'/\H'.get H.length=some (arC f be bl)/\H'.get b1=some (elL (tab l1 R.C))/\H'.get b2=some (elL (tab l2 R.B))/\∃j z0 z12 z13 z14 z15 z18 z19 z20 z21 z22 z23 z24 z25 z26 z27,j=min (R.L+1) l1/\S=[z0,.slice av s.length cv',.pointer (some ⟨H.length,0,none⟩),.slice none 0 0,.slice (some ⟨b1,0,none⟩) l1 l1,.slice (some ⟨b2,0,none⟩) l2 l2,.int .i64 (R.L:Nat),.int .i64 (R.m:Nat),.int .i64 (R.b.val:Nat),.int .i64 (n:Nat),.int .i64 ((sm j (fun i=>R.C i*co s (n-i))).val:Nat),.int .i64 (j:Nat),z12,z13,z14,z15,.int .i64 (s.length:Nat),.int .i64 (n:Nat),z18,z19,z20,z21,z22,z23,z24,z25,z26,z27]) ?_ ?_
  ·refine aa (fun j S H'=>Ext H H'/\H'.get H.length=some (arC f be bl)/\H'.get b1=some (elL (tab l1 R.C))/\H'.get b2=some (elL (tab l2 R.B))/\∃z0 z12 z13 z14 z15 z18 z19 z20 z21 z22 z23 z24 z25 z26 z27,S=[z0,.slice av s.length cv',.pointer (some ⟨H.length,0,none⟩),.slice none 0 0,.slice (some ⟨b1,0,none⟩) l1 l1,.slice (some ⟨b2,0,none⟩) l2 l2,.int .i64 (R.L:Nat),.int .i64 (R.m:Nat),.int .i64 (R.b.val:Nat),.int .i64 (n:Nat),.int .i64 ((sm j (fun i=>R.C i*co s (n-i))).val:Nat),.int .i64 (j:Nat),z12,z13,z14,z15,.int .i64 (s.length:Nat),.int .i64 (n:Nat),z18,z19,z20,z21,z22,z23,z24,z25,z26,z27]) (min (R.L+1) l1) ?_ ?_ ?_ ?_
   ·exact⟨hx1,f0,f1,f2,_,_,_,_,_,_,_,_,_,_,_,_,_,_,_,rfl⟩
   ·rintro j S H' hj ⟨hx,f0,f1,f2,z0,z12,z13,z14,z15,z18,z19,z20,z21,z22,z23,z24,z25,z26,z27,rfl⟩
    exact⟨_,aW,by simp;omega⟩
   ·clear hx1 f0 f1 f2
    rintro j S H1 hj ⟨hx1,f0,f1,f2,z0,z12,z13,z14,z15,z18,z19,z20,z21,z22,z23,z24,z25,z26,z27,rfl⟩;obtain⟨bb,o,sp,cap,xs,e,gx,hat,hxl⟩:=dV hs0 byO;cases e;have gx:=hx1.get gx;have hatj:=hat (n-j) byO;have hnj:((n:Int)-(j:Int))=((n-j:Nat):Int):=byO;have hget:(tab l1 R.C).getD j 0=R.C j:=eW byO;have hsm:=rO j (fun i=>R.C i*co s (n-i));have hl:=hx1.1;clear hat hd hbml hrun hR hl1 hl2;refine aC ?_;refine aQ ?_;refine aN (mulR hg (ha.mono hx1) (R.C j) (co s (n-j))) ?_;rintro v H2 ⟨hx2,rfl⟩;have f0:=(hx2).get f0;have f1:=(hx2).get f1;have f2:=(hx2).get f2;have hx2:=hx1.trans hx2;(try simp only[aB]);refine aQ ?_;refine aA (Bg (sm j (fun i=>R.C i*co s (n-i))) (R.C j*co s (n-j))) ?_;rintro v H3 ⟨hx3,rfl⟩;have f0:=(hx3).get f0;have f1:=(hx3).get f1;have f2:=(hx3).get f2;have hx3:=hx2.trans hx3;clear hget hnj;refine aC ?_;exact⟨hx3,f0,f1,f2,_,_,_,_,_,_,_,_,_,_,_,_,_,_,_,by rw[hsm];first|rfl|(simp only[ap₀,Int.natCast_one];rfl)|simp only[ap₀,Int.natCast_one]⟩
   ·rintro S H1 ⟨hx1,f0,f1,f2,z0,z12,z13,z14,z15,z18,z19,z20,z21,z22,z23,z24,z25,z26,z27,rfl⟩
    exact⟨hx1,f0,f1,f2,_,_,_,_,_,_,_,_,_,_,_,_,_,_,_,_,rfl,rfl⟩
  clear hx1 f0 f1 f2;rintro S H1 ⟨hx1,f0,f1,f2,j,z0,z12,z13,z14,z15,z18,z19,z20,z21,z22,z23,z24,z25,z26,z27,rfl,rfl⟩;rw[hd];generalize hD:cv R.C (co s) n=d at *;have hdl:=d.lt;clear hd;(try simp only[aB]);refine aS ?_ ?_<;>intro h
  ·have hd0:d=0:=eR (by simp at h;omega)
   clear h;rw[if_pos hd0]at hbml hrun;refine aC ?_;exact⟨hx1,f0,b1,b2,hbb,by rw[hrun,hbml,hl1];exact f1,by rw[hrun,hbml,hl2];exact f2,_,_,_,_,_,_,_,_,_,_,_,_,_,_,_,_,_,_,by rw[hrun,hbml,hl1,hl2];first|rfl|(simp only[ap₀,Int.natCast_one];rfl)|simp only[ap₀,Int.natCast_one]⟩
  have hd0:d≠0:=fun e=>by rw[e,lJ]at h;simp at h
  clear h;rw[if_neg hd0]at hbml hrun;have hl:=hx1.1;(try simp only[aB]);refine aQ ?_;refine aN (Ns hg (ha.mono hx1) d R.b hb0) ?_;rintro v H2 ⟨hx2,rfl⟩;have f0:=(hx2).get f0;have f1:=(hx2).get f1;have f2:=(hx2).get f2;have hx2:=hx1.trans hx2;have hl2':=hx2.1;have hs1:=bK (sp:=none) f1 (aG l1 R.C);have hs2:=bK (sp:=none) f2 (aG l2 R.B);(try simp only[aB]);refine aQ ?_;refine aA (zg byO hg (ha.mono hx2) hs1 hs2 (by rw[aG];omega) (by rw[aG];omega) R.m byO (d*inv R.b)) ?_;rintro v H3 ⟨hx3,b3,hb3,rfl,f3⟩;have f0:=(hx3).get f0;have f1:=(hx3).get f1;have f2:=(hx3).get f2;have hx3:=hx2.trans hx3;have hred:mE (tab l1 R.C) (tab l2 R.B) R.m (d*inv R.b)=tab (max l1 (l2+R.m)) (fun i=>R.C i-d*inv R.b*sh R.m R.B i):=by
   unfold mE;rw[aG,aG];refine ah fun k hk=>?_;rw[dL];congr 1
   ·split
    ·rfl
    ·exact(hz1 k byO).symm
   ·congr 1
    unfold sh;split
    ·rw[dL]
     split
     ·rfl
     ·exact(hz2 _ byO).symm
    ·rfl
  rw[hred,aG];rw[hred]at f3;clear hred hs1 hs2;refine aC ?_;have hcL:((n+1-R.L:Nat):Int)=(n:Int)+1-(R.L:Nat):=byO;by_cases hc:2*R.L<=n
  ·rw[if_pos hc]at hbml hrun
   refine aS ?_ ?_<;>intro h
   ·clear h
    refine aC ?_;exact⟨hx3,f0,b3,b1,⟨byO,hbb.1⟩,by rw[hrun,hbml];exact f3,by rw[hrun,hbml];exact f1,_,_,_,_,_,_,_,_,_,_,_,_,_,_,_,_,_,_,by rw[hrun,hbml];simp only[hcL,ap₀,Int.natCast_one];rfl⟩
   ·simp at h;omega
  ·rw[if_neg hc]at hbml hrun
   refine aS ?_ ?_<;>intro h
   ·simp at h;omega
   ·clear h
    refine aC ?_;exact⟨hx3,f0,b3,b2,⟨byO,hbb.2⟩,by rw[hrun,hbml];exact f3,by rw[hrun,hbml];exact f2,_,_,_,_,_,_,_,_,_,_,_,_,_,_,_,_,_,_,by rw[hrun,hbml];simp only[ap₀,Int.natCast_one];rfl⟩
 ·clear g0 g1 g2 hxG
  rintro S H1 ⟨hx1,f0,b1,b2,hbb,f1,f2,z0,z9,z10,z11,z12,z13,z14,z15,z18,z19,z20,z21,z22,z23,z24,z25,z26,z27,rfl⟩;have hinv:=gW (co s) s.length;obtain⟨hle1,hle2,hle3⟩:=mR (co s) s.length;obtain⟨hz1,hz2,hpos⟩:=nm (co s) s.length;have hone:=hinv.gen.one;have hloc:uF s=trim (tab (bml (co s) s.length).1 (Reg.run (co s) s.length).C):=rfl;generalize (Reg.run (co s) s.length).C=C at *;generalize (bml (co s) s.length).1=l1 at *;have hlen1:=aG l1 C;have hlen1':(tab l1 C).length<=l1/\l1<=(tab l1 C).length:=byO;clear hinv hlen1 f2;refine aC ?_;refine aY (fun m S H'=>H1=H'/\∃(e:Nat) (z0 z1 z2 z5 z6 z7 z8 z9 z10 z11 z12 z14 z15 z16 z17 z18 z19 z20 z21 z22 z23 z24 z25 z26 z27:Value),1<=e/\e<=l1/\m=e/\(∀i,e<=i->co (tab l1 C) i=0)/\S=[z0,z1,z2,.slice none 0 0,.slice (some ⟨b1,0,none⟩) l1 l1,z5,z6,z7,z8,z9,z10,z11,z12,.int .i64 (e:Nat),z14,z15,z16,z17,z18,z19,z20,z21,z22,z23,z24,z25,z26,z27]) l1 ?_ ?_
  ·exact⟨rfl,l1,_,_,_,_,_,_,_,_,_,_,_,_,_,_,_,_,_,_,_,_,_,_,_,_,_,hpos,Nat.le_refl _,rfl,fun i hi=>by rw[dL,if_neg byO],rfl⟩
  rintro m S H' ⟨rfl,e,z0,z1,z2,z5,z6,z7,z8,z9,z10,z11,z12,z14,z15,z16,z17,z18,z19,z20,z21,z22,z23,z24,z25,z26,z27,he1,hel,rfl,hze,rfl⟩;have hm1:((m:Int)-1)=((m-1:Nat):Int):=byO;have hget:(tab l1 C).getD (m-1) 0=C (m-1):=eW byO;(try simp only[aB]);refine aS ?_ ?_<;>intro h
  ·have hz:C (m-1)=0:=eR (by simp at h;omega)
   clear h;have hm2:2<=m:=by
    apply Decidable.byContradiction;intro hc;rw[show m-1=0 by omega,hone]at hz;exact ig hz
   clear hm1 hget;refine aC ?_;simp only[ak];refine⟨m-1,byO,by trivial,m-1,_,_,_,_,_,_,_,_,_,_,_,_,_,_,_,_,_,_,_,_,_,_,_,_,_,byO,byO,rfl,fun i hi=>?_,by rw[show((m-1:Nat):Int)=(m:Int)-1 by omega]⟩;by_cases e:i=m-1
   ·rw[e,dL,if_pos byO,hz]
   ·exact hze i byO
  ·have hz:C (m-1)≠0:=fun e=>by rw[e,lJ]at h;simp at h
   clear h hm1 hget;have htrim:uF s=(tab l1 C).take m:=by
    rw[hloc,<-tM (n:=m) (by rw[aG];omega) hze];have:=tL (l:=tab l1 C) (n:=m-1) (by rw[aG];omega) (by rw[dL,if_pos byO];exact hz);rwa [show m-1+1=m by omega]at this
   clear hloc;refine aC ?_;refine aT ?_;refine⟨hx1,?_,NewV.mk hbb.1⟩;rw[htrim];have hml:((tab l1 C).take m).length=m:=by rw[List.length_take,aG];omega
   refine .inr ⟨b1,0,none,l1,_,?_,f1,?_,?_,.inl rfl,?_⟩
   ·rw[hml];rfl
   ·rw[hml,List.drop_zero]
    simp[elL,List.map_take]
   ·rw[hml,bq,aG];omega
   ·rw[hml];exact hel
end
end Go.Proofs.YtmnlgdpdgjbfgaaGreat
