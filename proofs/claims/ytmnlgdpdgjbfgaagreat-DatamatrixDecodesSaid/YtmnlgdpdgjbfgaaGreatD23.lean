/- Lemmas. -/
import Derived.Test.YtmnlgdpdgjbfgaaGreatD10
import Derived.Test.YtmnlgdpdgjbfgaaGreatD20
import Derived.Test.YtmnlgdpdgjbfgaaGreatD21
import Derived.Test.YtmnlgdpdgjbfgaaGreatD22
set_option linter.all false
namespace Go.Proofs.YtmnlgdpdgjbfgaaGreat
open Go.Abs Go.RS
variable{H:Heap}{lo:Nat}{v:Value}
set_option maxRecDepth 20000
section
variable {f:FD}[OkC f]
namespace XHe
def xtr:=zzi @Int.cast_ofNat_Int (zzi @fv.eq_1 (zzi @fvf.eq_1 (zzi @fvC.eq_1 (zzi @cdC.eq_1 (zzi @iU (zzi @bq (zzi @eQ (zzi @fj @ite_self.{1}))))))))
end XHe
open XHe
set_option maxHeartbeats 4000000 in
theorem D0{s:List (El f)}(hlo:lo<=H.length)(hs:SlE H v s)(hsl:s.length<=10000000) :
  Ev cp lo 124 [fvf f,v] H (fun v H'=>Ext H H'/\∃vl,v=.tuple #[vl,.int .i64 ((Reg.run (co s) s.length).L:Nat)]/\SlE H' vl (uF s)):=by
 have hs0:=hs;obtain⟨av,cv',rfl⟩:=hs.len;unfold fvf fv;refine stG rfl rfl ?_;unfold IF;simp only[kB,aB];refine aC ?_;generalize hG:H++_=G at *;have g0:G.get H.length=some (fvC f):=by rw[<-hG];exact aK
 have g1:G.get (H.length+1)=some (elL (tab 1 (s1:Ser (El f)))):=by rw[<-hG,bI];rfl
 have g2:G.get (H.length+2)=some (elL (tab 1 (s1:Ser (El f)))):=by rw[<-hG,bI];rfl
 have hxG:Ext H G:=by rw[<-hG];exact Ext.app _ _
 clear hG;refine aa (fun n S H'=>Ext H H'/\H'.get H.length=some (fvC f)/\∃b1 b2,H'.get b1=some (elL (tab (bml (co s) n).1 (Reg.run (co s) n).C))/\H'.get b2=some (elL (tab (bml (co s) n).2 (Reg.run (co s) n).B))/\∃z0 z11 z12 z13 z14 z15 z16 z17 z18 z19 z20 z21 z22 z23 z24 z25 z26 z27 z28 z29 z30 z31,S=[z0,.slice av s.length cv',.pointer (some ⟨H.length,0,none⟩),.slice none 0 0,.int .i64 0,.slice (some ⟨b1,0,none⟩) (bml (co s) n).1 (bml (co s) n).1,.slice (some ⟨b2,0,none⟩) (bml (co s) n).2 (bml (co s) n).2,.int .i64 ((Reg.run (co s) n).L:Nat),.int .i64 ((Reg.run (co s) n).m:Nat),.int .i64 ((Reg.run (co s) n).b.val:Nat),.int .i64 (n:Nat),z11,z12,z13,z14,z15,z16,z17,z18,z19,z20,z21,z22,z23,z24,z25,z26,z27,z28,z29,z30,z31]) s.length ?_ ?_ ?_ ?_
 ·exact⟨hxG,g0,H.length+1,H.length+2,g1,g2,_,_,_,_,_,_,_,_,_,_,_,_,_,_,_,_,_,_,_,_,_,_,rfl⟩
 ·rintro n S H' hn ⟨hx,f0,b1,b2,f1,f2,z0,z11,z12,z13,z14,z15,z16,z17,z18,z19,z20,z21,z22,z23,z24,z25,z26,z27,z28,z29,z30,z31,rfl⟩
  exact⟨_,aW,by simp⟩
 ·clear g0 g1 g2 hxG
  rintro n S H1 hn ⟨hx1,f0,b1,b2,f1,f2,z0,z11,z12,z13,z14,z15,z16,z17,z18,z19,z20,z21,z22,z23,z24,z25,z26,z27,z28,z29,z30,z31,rfl⟩;have hinv:=gW (co s) n;obtain⟨hle1,hle2,hle3⟩:=mR (co s) n;obtain⟨hz1,hz2,hpos⟩:=nm (co s) n;have hd:=yj (s:=s) (n:=n) (lenC:=(Reg.run (co s) n).L+1) (Reg.run (co s) n).C hinv.gen.deg (fun i hi=>hinv.gen.deg i byO) hle3;rw[Nat.min_self]at hd;have hbml:=bml.eq_2 (co s) n;have hrun:Reg.run (co s) (n+1)=(Reg.run (co s) n).next (co s) n:=rfl;unfold Reg.next at hrun;have hb0:=hinv.b;have hmp:=hinv.mp;have hdeg:=hinv.gen.deg;clear hinv;generalize hR:Reg.run (co s) n=R at *;generalize hl1:(bml (co s) n).1=l1 at *;generalize hl2:(bml (co s) n).2=l2 at *;have hcoC:∀i,co (tab l1 R.C) i=R.C i:=by
   intro i;rw[dL];split
   ·rfl
   ·exact(hz1 i byO).symm
  refine aC ?_;refine eo (fun S H'=>Ext H H'/\H'.get H.length=some (fvC f)/\H'.get b1=some (elL (tab l1 R.C))/\H'.get b2=some (elL (tab l2 R.B))/\∃j z0 z13 z14 z15 z16 z17 z18 z19 z20 z21 z22 z23 z24 z25 z26 z27 z28 z29 z30 z31,j=R.L+1/\S=[z0,.slice av s.length cv',.pointer (some ⟨H.length,0,none⟩),.slice none 0 0,.int .i64 0,.slice (some ⟨b1,0,none⟩) l1 l1,.slice (some ⟨b2,0,none⟩) l2 l2,.int .i64 (R.L:Nat),.int .i64 (R.m:Nat),.int .i64 (R.b.val:Nat),.int .i64 (n:Nat),.int .i64 ((sm j (fun i=>R.C i*co s (n-i))).val:Nat),.int .i64 (j:Nat),z13,z14,z15,z16,z17,z18,z19,z20,z21,z22,z23,z24,z25,z26,z27,z28,z29,z30,z31]) ?_ ?_
  ·refine aa (fun j S H'=>Ext H H'/\H'.get H.length=some (fvC f)/\H'.get b1=some (elL (tab l1 R.C))/\H'.get b2=some (elL (tab l2 R.B))/\∃z0 z13 z14 z15 z16 z17 z18 z19 z20 z21 z22 z23 z24 z25 z26 z27 z28 z29 z30 z31,S=[z0,.slice av s.length cv',.pointer (some ⟨H.length,0,none⟩),.slice none 0 0,.int .i64 0,.slice (some ⟨b1,0,none⟩) l1 l1,.slice (some ⟨b2,0,none⟩) l2 l2,.int .i64 (R.L:Nat),.int .i64 (R.m:Nat),.int .i64 (R.b.val:Nat),.int .i64 (n:Nat),.int .i64 ((sm j (fun i=>R.C i*co s (n-i))).val:Nat),.int .i64 (j:Nat),z13,z14,z15,z16,z17,z18,z19,z20,z21,z22,z23,z24,z25,z26,z27,z28,z29,z30,z31]) (R.L+1) ?_ ?_ ?_ ?_
   ·exact⟨hx1,f0,f1,f2,_,_,_,_,_,_,_,_,_,_,_,_,_,_,_,_,_,_,_,_,rfl⟩
   ·rintro j S H' hj ⟨hx,f0,f1,f2,z0,z13,z14,z15,z16,z17,z18,z19,z20,z21,z22,z23,z24,z25,z26,z27,z28,z29,z30,z31,rfl⟩
    exact⟨_,aW,by simp;omega⟩
   ·clear hx1 f0 f1 f2
    rintro j S H1 hj ⟨hx1,f0,f1,f2,z0,z13,z14,z15,z16,z17,z18,z19,z20,z21,z22,z23,z24,z25,z26,z27,z28,z29,z30,z31,rfl⟩;obtain⟨bb,o,sp,cap,xs,e,gx,hat,hxl⟩:=dV hs0 byO;cases e;have gx:=hx1.get gx;have hatj:=hat (n-j) byO;have hnj:((n:Int)-(j:Int))=((n-j:Nat):Int):=byO;have hsm:=rO j (fun i=>R.C i*co s (n-i));have hl:=hx1.1;have hs1:=bK (sp:=none) f1 (aG l1 R.C);have hcj:=hcoC j;clear hat hd hbml hrun hR hl1 hl2 hcoC;(try simp only[aB]);refine aQ ?_;refine aN (atV hs1 j) ?_;rintro v H2 ⟨rfl,rfl⟩;rw[hcj];(try simp only[aB]);refine aQ ?_;refine aN (fh (R.C j) (co s (n-j))) ?_;rintro v H2 ⟨hx2,rfl⟩;have f0:=(hx2).get f0;have f1:=(hx2).get f1;have f2:=(hx2).get f2;have hx2:=hx1.trans hx2;(try simp only[aB]);refine aQ ?_;refine aA (zj (sm j (fun i=>R.C i*co s (n-i))) (R.C j*co s (n-j))) ?_;rintro v H3 ⟨hx3,rfl⟩;have f0:=(hx3).get f0;have f1:=(hx3).get f1;have f2:=(hx3).get f2;have hx3:=hx2.trans hx3;clear hnj;refine aC ?_;exact⟨hx3,f0,f1,f2,_,_,_,_,_,_,_,_,_,_,_,_,_,_,_,_,_,_,_,_,by rw[hsm];first|rfl|(simp only[ap₀,Int.natCast_one];rfl)|simp only[ap₀,Int.natCast_one]⟩
   ·rintro S H1 ⟨hx1,f0,f1,f2,z0,z13,z14,z15,z16,z17,z18,z19,z20,z21,z22,z23,z24,z25,z26,z27,z28,z29,z30,z31,rfl⟩
    exact⟨hx1,f0,f1,f2,_,_,_,_,_,_,_,_,_,_,_,_,_,_,_,_,_,_,_,_,_,rfl,rfl⟩
  clear hx1 f0 f1 f2;rintro S H1 ⟨hx1,f0,f1,f2,j,z0,z13,z14,z15,z16,z17,z18,z19,z20,z21,z22,z23,z24,z25,z26,z27,z28,z29,z30,z31,rfl,rfl⟩;rw[hd];generalize hD:cv R.C (co s) n=d at *;have hdl:=d.lt;clear hd;(try simp only[aB]);refine aS ?_ ?_<;>intro h
  ·have hd0:d=0:=eR (by simp at h;omega)
   clear h;rw[if_pos hd0]at hbml hrun;refine aC ?_;exact⟨hx1,f0,b1,b2,by rw[hrun,hbml,hl1];exact f1,by rw[hrun,hbml,hl2];exact f2,_,_,_,_,_,_,_,_,_,_,_,_,_,_,_,_,_,_,_,_,_,_,by rw[hrun,hbml,hl1,hl2];first|rfl|(simp only[ap₀,Int.natCast_one];rfl)|simp only[ap₀,Int.natCast_one]⟩
  have hd0:d≠0:=fun e=>by rw[e,lJ]at h;simp at h
  clear h;rw[if_neg hd0]at hbml hrun;have hl:=hx1.1;(try simp only[aB]);refine aQ ?_;refine aN (kx R.b hb0) ?_;rintro v H2 ⟨hx2,rfl⟩;have f0:=(hx2).get f0;have f1:=(hx2).get f1;have f2:=(hx2).get f2;have hx2:=hx1.trans hx2;(try simp only[aB]);refine aQ ?_;refine aN (fh d (inv R.b)) ?_;rintro v H2' ⟨hx2',rfl⟩;have f0:=(hx2').get f0;have f1:=(hx2').get f1;have f2:=(hx2').get f2;have hx2:=hx2.trans hx2';clear hx2';have hl2':=hx2.1;have hs1:=bK (sp:=none) f1 (aG l1 R.C);have hs2:=bK (sp:=none) f2 (aG l2 R.B);(try simp only[aB]);refine aQ ?_;refine aA (ON byO hs1 hs2 (by rw[aG];omega) (by rw[aG];omega) R.m byO (d*inv R.b)) ?_;rintro v H3 ⟨hx3,b3,hb3,rfl,f3⟩;have f0:=(hx3).get f0;have f1:=(hx3).get f1;have f2:=(hx3).get f2;have hx3:=hx2.trans hx3;have hred:mE (tab l1 R.C) (tab l2 R.B) R.m (d*inv R.b)=tab (max l1 (l2+R.m)) (fun i=>R.C i-d*inv R.b*sh R.m R.B i):=by
   unfold mE;rw[aG,aG];refine ah fun k hk=>?_;rw[hcoC];congr 1;congr 1;unfold sh;split
   ·rw[dL]
    split
    ·rfl
    ·exact(hz2 _ byO).symm
   ·rfl
  rw[hred,aG];rw[hred]at f3;clear hred hs1 hs2 hcoC;have hcL:((n+1-R.L:Nat):Int)=(n:Int)+1-(R.L:Nat):=byO;refine aC ?_;by_cases hc:2*R.L<=n
  ·rw[if_pos hc]at hbml hrun
   refine aS ?_ ?_<;>intro h
   ·clear h
    refine aC ?_;exact⟨hx3,f0,b3,b1,by rw[hrun,hbml];exact f3,by rw[hrun,hbml];exact f1,_,_,_,_,_,_,_,_,_,_,_,_,_,_,_,_,_,_,_,_,_,_,by rw[hrun,hbml];simp only[hcL,ap₀,Int.natCast_one];rfl⟩
   ·simp at h;omega
  ·rw[if_neg hc]at hbml hrun
   refine aS ?_ ?_<;>intro h
   ·simp at h;omega
   ·clear h
    refine aC ?_;exact⟨hx3,f0,b3,b2,by rw[hrun,hbml];exact f3,by rw[hrun,hbml];exact f2,_,_,_,_,_,_,_,_,_,_,_,_,_,_,_,_,_,_,_,_,_,_,by rw[hrun,hbml];simp only[ap₀,Int.natCast_one];rfl⟩
 ·clear g0 g1 g2 hxG
  rintro S H1 ⟨hx1,f0,b1,b2,f1,f2,z0,z11,z12,z13,z14,z15,z16,z17,z18,z19,z20,z21,z22,z23,z24,z25,z26,z27,z28,z29,z30,z31,rfl⟩;have hinv:=gW (co s) s.length;obtain⟨hle1,hle2,hle3⟩:=mR (co s) s.length;obtain⟨hz1,hz2,hpos⟩:=nm (co s) s.length;have hone:=hinv.gen.one;have hloc:uF s=trim (tab (bml (co s) s.length).1 (Reg.run (co s) s.length).C):=rfl;generalize (Reg.run (co s) s.length).C=C at *;generalize (bml (co s) s.length).1=l1 at *;have hlen1:=aG l1 C;have hlen1':(tab l1 C).length<=l1/\l1<=(tab l1 C).length:=byO;clear hinv hlen1 f2;(try simp only[aB]);refine aY (fun m S H'=>H1=H'/\∃(e:Nat) (z0 z1 z2 z3 z4 z6 z8 z9 z10 z11 z12 z13 z14 z15 z16 z17 z18 z19 z20 z21 z22 z23 z24 z25 z26 z27 z28 z29 z30 z31:Value),1<=e/\e<=l1/\m=e/\(∀i,e<=i->co (tab l1 C) i=0)/\S=[z0,z1,z2,z3,z4,.slice (some ⟨b1,0,none⟩) e l1,z6,.int .i64 ((Reg.run (co s) s.length).L:Nat),z8,z9,z10,z11,z12,z13,z14,z15,z16,z17,z18,z19,z20,z21,z22,z23,z24,z25,z26,z27,z28,z29,z30,z31]) l1 ?_ ?_
  ·exact⟨rfl,l1,_,_,_,_,_,_,_,_,_,_,_,_,_,_,_,_,_,_,_,_,_,_,_,_,_,_,_,_,_,_,hpos,Nat.le_refl _,rfl,fun i hi=>by rw[dL,if_neg byO],rfl⟩
  rintro m S H' ⟨rfl,e,z0,z1,z2,z3,z4,z6,z8,z9,z10,z11,z12,z13,z14,z15,z16,z17,z18,z19,z20,z21,z22,z23,z24,z25,z26,z27,z28,z29,z30,z31,he1,hel,rfl,hze,rfl⟩;have hm1:((m:Int)-1)=((m-1:Nat):Int):=byO;have hget:(tab l1 C).getD (m-1) 0=C (m-1):=eW byO;(try simp only[aB]);refine aS ?_ ?_<;>intro h
  ·have hz:C (m-1)=0:=eR (by simp at h;omega)
   clear h;have hm2:2<=m:=by
    apply Decidable.byContradiction;intro hc;rw[show m-1=0 by omega,hone]at hz;exact ig hz
   clear hget;refine aC ?_;simp only[ak];refine⟨m-1,byO,by trivial,m-1,_,_,_,_,_,_,_,_,_,_,_,_,_,_,_,_,_,_,_,_,_,_,_,_,_,_,_,_,_,_,byO,byO,rfl,fun i hi=>?_,rfl⟩;by_cases e:i=m-1
   ·rw[e,dL,if_pos byO,hz]
   ·exact hze i byO
  ·have hz:C (m-1)≠0:=fun e=>by rw[e,lJ]at h;simp at h
   clear h hm1 hget;have htrim:uF s=(tab l1 C).take m:=by
    rw[hloc,<-tM (n:=m) (by rw[aG];omega) hze];have:=tL (l:=tab l1 C) (n:=m-1) (by rw[aG];omega) (by rw[dL,if_pos byO];exact hz);rwa [show m-1+1=m by omega]at this
   clear hloc;refine aC ?_;refine aT ?_;refine⟨hx1,_,rfl,?_⟩;rw[htrim];have hml:((tab l1 C).take m).length=m:=by rw[List.length_take,aG];omega
   refine .inr ⟨b1,0,none,l1,_,?_,f1,?_,?_,.inl rfl,?_⟩
   ·rw[hml]
   ·rw[hml,List.drop_zero]
    simp[elL,List.map_take]
   ·rw[hml,bq,aG];omega
   ·rw[hml];exact hel
end
open Go.Abs Go.RS
section
variable {f:FD}[OkC f]
theorem GV(a b:Nat):aJ (.minmax false) [.int .i64 (a:Int),.int .i64 (b:Int)] H=some (.int .i64 ((min a b:Nat):Int)):=by
 rw[D3];congr 2;split<;>omega
theorem GU(a b:Nat):aJ (.minmax true) [.int .i64 0,.int .i64 ((a:Int)+(b:Int)-1)] H=some (.int .i64 ((a+b-1:Nat):Int)):=by
 rw[xn];congr 2;split<;>omega
open XHe
set_option maxHeartbeats 2000000 in
theorem nT{vp vq:Value}{p q:List (El f)}(hlo:lo<=H.length)(hp:SlE H vp p)(hq:SlE H vq q)(hpl:p.length<=100000000)(hql:q.length<=100000000)(n:Nat)(hn:n<=100000000) :
  Ev cp lo 112 [fvf f,vp,vq,.int .i64 n] H (fun v H'=>Ext H H'/\∃b,H.length<=b/\v=.slice (some ⟨b,0,none⟩) (min n (p.length+q.length-1)) (min n (p.length+q.length-1))/\H'.get b=some (elL (tab (min n (p.length+q.length-1)) (cv (co p) (co q))))):=by
 have hp0:=hp;have hq0:=hq;obtain⟨ap,cp',rfl⟩:=hp.len;obtain⟨aq,cq,rfl⟩:=hq.len;have hmx:=fun(H:Heap)=>GU (H:=H) p.length q.length;have hmn:=fun(H:Heap)=>GV (H:=H) n (p.length+q.length-1);have hN:min n (p.length+q.length-1)<=100000000:=byO;unfold fvf fv;refine stG rfl rfl ?_;unfold Hr;simp only[kB,aB];refine aC ?_;generalize hG:H++_=G at *;have g0:G.get H.length=some (fvC f):=by rw[<-hG];exact aK
 have g1:G.get (H.length+1)=some (elL (tab (min n (p.length+q.length-1)) (fun _=>(0:El f)))):=by rw[<-hG,bI,fA];rfl
 have hxG:Ext H G:=by rw[<-hG];exact Ext.app _ _
 clear hG hmx hmn;generalize min n (p.length+q.length-1)=N at *;refine aa (fun i S H'=>Ext H H'/\H'.get H.length=some (fvC f)/\H'.get (H.length+1)=some (elL (tab N (rows (co p) (co q) i)))/\∃(z:Nat->Value),S=[z 0,.slice ap p.length cp',.slice aq q.length cq,z 3,.pointer (some ⟨H.length,0,none⟩),.slice none 0 0,.slice (some ⟨H.length+1,0,none⟩) N N,.int .i64 (i:Nat),z 8,z 9,z 10,z 11,z 12,z 13,z 14,z 15]) p.length ?_ ?_ ?_ ?_
 ·exact⟨hxG,g0,g1,aR rfl⟩
 ·rintro i S H' hi ⟨hx,f0,f1,z,rfl⟩
  exact⟨_,aW,by simp⟩
 ·clear g0 g1 hxG
  rintro i S H1 hi ⟨hx1,f0,f1,z,rfl⟩;obtain⟨b,o,sp,cap,xs,e,gx,hat,hxl⟩:=dV hp0 byO;cases e;have hati:=hat i hi;have hl1:=Heap.get_lt f1;have hbH:=Heap.get_lt gx;clear hat;refine aC ?_;refine aa (fun j S H'=>Ext H H'/\H'.get H.length=some (fvC f)/\H'.get (H.length+1)=some (elL (tab N (fun k=>rows (co p) (co q) i k+(if i<=k/\k<i+j then co p i*co q (k-i) else 0))))/\∃(z:Nat->Value),S=[z 0,.slice (some ⟨b,o,sp⟩) p.length cp',.slice aq q.length cq,z 3,.pointer (some ⟨H.length,0,none⟩),.slice none 0 0,.slice (some ⟨H.length+1,0,none⟩) N N,.int .i64 (i:Nat),.int .i64 (j:Nat),z 9,z 10,z 11,z 12,z 13,z 14,z 15]) (min q.length (N-i)) ?_ ?_ ?_ ?_
  ·refine⟨hx1,f0,?_,aR rfl⟩
   rw[f1];congr 2;refine ah fun k _=>?_;rw[if_neg byO,add_zero]
  ·rintro j S H' hj ⟨hx,f0,f1,z,rfl⟩
   exact⟨_,aW,by simp;omega⟩
  ·clear f0 f1 hl1 hx1
   rintro j S H1 hj ⟨hx1,f0,f1,z,rfl⟩;obtain⟨b',o',sp',cap',ys,e',gy,hay,hyl⟩:=dV hq0 byO;cases e';have gy:=hx1.get gy;have gx:=hx1.get gx;have hayj:=hay j byO;have hget:(tab N (fun k=>rows (co p) (co q) i k+(if i<=k/\k<i+j then co p i*co q (k-i) else 0))).getD (i+j) 0=rows (co p) (co q) i (i+j):=by
    rw[eW byO,if_neg byO,add_zero]
   have hset:(tab N (fun k=>rows (co p) (co q) i k+(if i<=k/\k<i+j then co p i*co q (k-i) else 0))).set (i+j) (rows (co p) (co q) i (i+j)+co p i*co q j)=tab N (fun k=>rows (co p) (co q) i k+(if i<=k/\k<i+(j+1) then co p i*co q (k-i) else 0)):=by
    rw[kF];refine ah fun k hk=>?_;by_cases e:k=i+j
    ·rw[if_pos e,if_pos byO,e,show i+j-i=j by omega]
    ·rw[if_neg e]
     by_cases h2:i<=k/\k<i+j
     ·rw[if_pos h2,if_pos byO]
     ·rw[if_neg h2,if_neg byO]
   have hlen2:(tab N (fun k=>rows (co p) (co q) i k+(if i<=k/\k<i+j then co p i*co q (k-i) else 0))).length<=N/\N<=(tab N (fun k=>rows (co p) (co q) i k+(if i<=k/\k<i+j then co p i*co q (k-i) else 0))).length:=by rw[aG];omega
   generalize tab N (fun k=>rows (co p) (co q) i k+(if i<=k/\k<i+j then co p i*co q (k-i) else 0))=T at *;have hin:((i:Int)+(j:Int))=((i+j:Nat):Int):=byO;have hl1:=Heap.get_lt f1;clear hay;refine aC ?_;refine aQ ?_;refine aN (fh (co p i) (co q j)) ?_;rintro v H2 ⟨hx2,rfl⟩;have f0:=(hx2).get f0;have f1:=(hx2).get f1;have hx2:=hx1.trans hx2;(try simp only[aB]);refine aQ ?_;refine aA (zj (rows (co p) (co q) i (i+j)) (co p i*co q j)) ?_;rintro v H3 ⟨hx3,rfl⟩;have f0:=(hx3).get f0;have f1:=(hx3).get f1;have hx3:=hx2.trans hx3;have hl3:=Heap.get_lt f1;clear hget;refine aC ?_;exact⟨hx3.set (by omega),by simp(disch:=try exact dO)only[evB,xtr,Nat.reduceAdd,Nat.reduceBEq, *],by rw[aF (by omega)],aR ncM⟩
  ·clear f0 f1 hl1 hx1
   rintro S H1 ⟨hx1,f0,f1,z,rfl⟩;refine aC ?_;refine⟨hx1,f0,?_,aR ncM⟩;rw[f1];congr 2;refine ah fun k hk=>?_;rw[tD];congr 1;by_cases h1:i<=k
   ·rw[ja _ h1]
    by_cases h2:k<i+min q.length (N-i)
    ·rw[if_pos ⟨h1,h2⟩]
    ·rw[if_neg byO,kW (l:=q) byO,mul_zero]
   ·rw[if_neg byO,ky _ byO,mul_zero]
 ·rintro S H1 ⟨hx1,f0,f1,z,rfl⟩
  refine aC ?_;refine aT ?_;refine⟨hx1,H.length+1,byO,rfl,?_⟩;rw[f1];congr 2;exact ah fun k hk=>zi (fun i hi=>kW hi) k
theorem na(x:El f):(0:El f)-x=-x:=zero_add _
end
section
variable {f:FD}[OkC f]
open XArR
end
namespace XPa
def xtr:=zzi @Int.cast_ofNat_Int (zzi @fv.eq_1 (zzi @fvf.eq_1 (zzi @arC.eq_1 (zzi @iU (zzi @bq (zzi @eQ (zzi @fj (zzi @ite_self.{1} (zzi @ic (zzi @iZ @iY))))))))))
end XPa
open XPa
theorem A4{ch sz po:Int}{l:List Int}(hl:SlI H v l)(hll:l.length<=9223372036854775807):Ev cp lo 102 [fv ch sz po,v] H (fun v H'=>Ext H H'/\v=.bool (inF sz l)):=by
 have hl0:=hl;obtain⟨ad,c,rfl⟩:=hl.len;unfold fv;refine stG rfl rfl ?_;unfold Hl;simp only[kB,aB];refine aC ?_;generalize hG:H++_=G at *;have g0:G.get H.length=some [.int .i64 ch,.int .i64 sz,.int .i64 po]:=by rw[<-hG];exact aK
 have hxG:Ext H G:=by rw[<-hG];exact Ext.app _ _
 clear hG;refine aa (fun i S H'=>G=H'/\inF sz (l.take i)=true/\∃(z:Nat->Value),S=[z 0,z 1,.pointer (some ⟨H.length,0,none⟩),.bool false,z 4,.slice ad l.length c,.int .i64 (l.length:Nat),.int .i64 (i:Nat)]) l.length ?_ ?_ ?_ ?_
 ·exact⟨rfl,rfl,aR rfl⟩
 ·rintro i S H' hi ⟨rfl,-,z,rfl⟩
  exact⟨_,aW,by simp⟩
 ·rintro i S H' hi ⟨rfl,hin,z,rfl⟩
  obtain⟨b,o,sp,cap,xs,e,gx,hat,hxl⟩:=hl0.els 0 byO;cases e;have gx:=hxG.get gx;have hati:=hat i hi;have hs:=gK (p:=fun x=>!(decide (x<0) || decide (sz<=x))) hi;clear hat;refine aC ?_;refine aS ?_ ?_<;>intro h
  ·have hno:inF sz l=false:=by
    rw[Bool.eq_false_iff];intro hin2;have:=lS.1 hin2 (l.getD i 0) (by rw[au₀,bb₀ hi];exact List.getElem_mem hi);simp at h;simp at this;omega
   clear h hs;refine aC ?_;refine aT ?_;exact⟨hxG,by rw[hno];rfl⟩
  ·have hin2:inF sz (l.take (i+1))=true:=by
    unfold inF at hin ⊢;rw[hs,hin,h];rfl
   clear h hs;refine aC ?_;exact⟨by trivial,hin2,aR ncM⟩
 ·rintro S H' ⟨rfl,hin,z,rfl⟩
  rw[List.take_of_length_le (Nat.le_refl _)]at hin;refine aC ?_;refine aT ?_;exact⟨hxG,by rw[hin];rfl⟩
section
variable {f:FD}[OkC f]
def ml(l:List (El f)):List Int:=l.map fun x=>(x.val:Int)
theorem zt{l:List (El f)}(h:SlE H v l):SlI H v (ml l):=by
 rcases h with ⟨rfl,rfl⟩|⟨b,o,sp,cap,xs,h1,h2,h3,h4,h5⟩
 ·exact .inl ⟨rfl,rfl⟩
 ·refine .inr ⟨b,o,sp,cap,xs,by rw[h1];simp[ml],h2,?_,by simpa[ml]using h4,by simpa[ml]using h5⟩
  simp only[ml,ay₀,List.map_map];exact h3
theorem vr(l:List (El f)):inF (f.q:Int) (ml l)=true:=by
 rw[lS];intro x hx;obtain⟨y,_,rfl⟩:=List.mem_map.1 hx;have:=y.lt;omega
theorem wh(l:List (El f)):(ml l).length=l.length:=by simp[ml]
end
open Go.Abs Go.RS
section
variable {f:FD}[OkC f]
structure PolyOK (l:List (El f)):Prop where
 len:l.length<=4097
 last:l.length=0\/co l (l.length-1)≠0
end
section
variable {f:FD}[OkC f]
end
end Go.Proofs.YtmnlgdpdgjbfgaaGreat
