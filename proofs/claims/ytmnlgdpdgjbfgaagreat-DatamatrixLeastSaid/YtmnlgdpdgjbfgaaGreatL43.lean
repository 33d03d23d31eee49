/- Lemmas. -/
import Derived.Test.YtmnlgdpdgjbfgaaGreatL14
import Derived.Test.YtmnlgdpdgjbfgaaGreatL37
import Derived.Test.YtmnlgdpdgjbfgaaGreatL40
import Derived.Test.YtmnlgdpdgjbfgaaGreatL42
set_option linter.all false
namespace Go.Proofs.YtmnlgdpdgjbfgaaGreat
open Go.Abs
def WB(w:Nat)(f:Nat->Bool)(xs:List Int):Prop:=xs.length=w/\∀j,j<w->∃x:Nat,x<256/\xs.getD j 0=x/\∀b,b<8->x.testBit (7-b)=f (8*j+b)
theorem WB.zero(w:Nat):WB w (fun _=>false) (List.replicate w 0):=by
 refine⟨by simp,fun j hj=>⟨0,byO,?_,fun b hb=>by simp⟩⟩;simp[au₀,hj]
theorem GK{x y:Nat}(hx:x<256)(hy:y<256)(h:∀b,b<8->x.testBit (7-b)=y.testBit (7-b)):x=y:=by
 apply Nat.eq_of_testBit_eq;intro i;by_cases hi:i<8
 ·have:=h (7-i) byO
  rwa [show 7-(7-i)=i by omega]at this
 ·rw[Nat.testBit_lt_two_pow (bc₀ hx (show 2^8<=2^i from Nat.pow_le_pow_right byO byO)),Nat.testBit_lt_two_pow (bc₀ hy (show 2^8<=2^i from Nat.pow_le_pow_right byO byO))]
theorem WB.uniq{w:Nat}{f:Nat->Bool}{xs ys:List Int}(h:WB w f xs)(k:WB w f ys):xs=ys:=by
 refine y7 (h.1.trans k.1.symm) (fun i hi=>?_);obtain⟨x,x1,x2,x3⟩:=h.2 i (by rw[<-h.1];exact hi);obtain⟨y,y1,y2,y3⟩:=k.2 i (by rw[<-h.1];exact hi);rw[x2,y2,GK x1 y1 (fun b hb=>by rw[x3 b hb,y3 b hb])]
theorem WB.congr{w:Nat}{f g:Nat->Bool}{xs:List Int}(h:WB w f xs)(e:∀v,v<8*w->f v=g v):WB w g xs:=
 ⟨h.1,fun j hj=>by
  obtain⟨x,x1,x2,x3⟩:=h.2 j hj;exact⟨x,x1,x2,fun b hb=>by rw[x3 b hb,e _ byO]⟩⟩
theorem WB.at{w:Nat}{f:Nat->Bool}{xs:List Int}(h:WB w f xs){n:Nat}(hn:n<8*w):∃x:Nat,x<256/\xs.getD (n/8) 0=x/\x.testBit (7-n%8)=f n:=by
 obtain⟨x,x1,x2,x3⟩:=h.2 (n/8) byO;refine⟨x,x1,x2,?_⟩;rw[x3 _ byO,show 8*(n/8)+n%8=n by omega]
theorem WB.step{w:Nat}{f:Nat->Bool}{xs:List Int}(h:WB w f xs){n:Nat}(hn:n<8*w){y:Int}(hy:∀x:Nat,x<256->xs.getD (n/8) 0=x->x.testBit (7-n%8)=f n->y=(x ||| 2^(7-n%8):Nat)) :
  WB w (fun v=>f v || decide (v=n)) (xs.set (n/8) y):=by
 refine⟨by simp[h.1],fun j hj=>?_⟩;obtain⟨x,x1,x2,x3⟩:=h.2 j hj;by_cases e:n/8=j
 ·subst e
  have hx:=x3 (n%8) byO;rw[show 8*(n/8)+n%8=n by omega]at hx;refine⟨x ||| 2^(7-n%8),Nat.or_lt_two_pow (n:=8) x1 (Nat.pow_lt_pow_right byO byO),?_,fun b hb=>?_⟩
  ·have:n/8<xs.length:=by rw[h.1];exact hj
   rw[au₀,List.getElem?_set_self this];exact hy x x1 x2 hx
  ·rw[Nat.testBit_or,x3 b hb,Nat.testBit_two_pow]
   congr 1;rw[Bool.eq_iff_iff];simp only[af₀];omega
 ·refine⟨x,x1,?_,fun b hb=>?_⟩
  ·rw[au₀,List.getElem?_set_ne e,<-au₀];exact x2
  ·rw[x3 b hb]
   have:decide (8*j+b=n)=false:=by simp;omega
   show _=(f (8*j+b) || decide (8*j+b=n));rw[this,Bool.or_false]
set_option maxRecDepth 20000
namespace XJWp
def xtr:=zzi @Sz.cells.eq_1 (zzi @Sz.val.eq_1 @Int.cast_ofNat_Int)
end XJWp
open XJWp
open Go.Abs
theorem nF{i k:Nat}(hi:i<30)(hk:k<7):szCells[i*7+k]?=(bP i).cells[k]?:=by
 rw[<-kT hi,List.getElem?_take,if_pos hk,List.getElem?_drop]
end Go.Proofs.YtmnlgdpdgjbfgaaGreat
namespace Go.Proofs.YtmnlgdpdgjbfgaaGreat
open Go.Abs Go.RS
def pM(r c:Int)(k:Nat):Int:=(szs.take k).foldl (fun a s=>if s.r=r/\s.c=c then s.d else a) 0
def jT(n:Int)(sq:Bool)(k:Nat):Int:=(szs.take k).foldl (fun a s=>if (n<=s.d/\(sq=false\/s.r=s.c))/\(a=0\/s.d<a) then s.d else a) 0
theorem yV{r c:Int}{k:Nat}(h:k<30):pM r c (k+1)=if (bP k).r=r/\(bP k).c=c then(bP k).d else pM r c k:=by
 unfold pM;rw[fT h,List.foldl_append];rfl
theorem pO{n:Int}{sq:Bool}{k:Nat}(h:k<30):jT n sq (k+1)=if (n<=(bP k).d/\(sq=false\/(bP k).r=(bP k).c))/\(jT n sq k=0\/(bP k).d<jT n sq k) then(bP k).d else jT n sq k:=by
 unfold jT;rw[fT h,List.foldl_append];rfl
theorem Df:szs.all (fun s=>decide (pM s.r s.c 30=s.d)&&decide (1<=s.d))=true:=by kernel_rfl
theorem wT{s:Sz}(hs:s ∈ szs):pM s.r s.c 30=s.d/\1<=s.d:=by
 simpa using List.all_eq_true.1 Df s hs
theorem tQ{n:Nat}{sq:Bool}:∀k,k<=30->jT n sq k=(dU ((max n 1:Nat):Int) sq k).d/\(sq=true->(dU ((max n 1:Nat):Int) sq k).r=(dU ((max n 1:Nat):Int) sq k).c)
 | 0,_=>⟨rfl,fun _=>rfl⟩
 | k+1,h=>by
  obtain⟨h1,h2⟩:=tQ (n:=n) (sq:=sq) k byO;have hd:=(wT (CJ (i:=k) byO)).2;rw[pO byO,gi byO,gj,h1];generalize dU ((max n 1:Nat):Int) sq k=b at *;generalize bP k=s at *;have e:((max n 1:Nat):Int)<=s.d↔(n:Int)<=s.d:=byO;by_cases hc:(sq=true/\s.r≠s.c)\/s.d<((max n 1:Nat):Int)
  ·rw[if_pos hc,if_neg]
   ·exact⟨rfl,h2⟩
   ·rintro⟨⟨a,c⟩,-⟩
    rcases hc with ⟨x,y⟩|x
    ·rcases c with c|c
     ·rw[x]at c;cases c
     ·exact y c
    ·omega
  ·rw[if_neg hc]
   have hq:sq=false\/s.r=s.c:=by
    cases sq
    ·exact .inl rfl
    ·refine .inr (Classical.byContradiction fun x=>hc (.inl ⟨rfl,x⟩))
   have hn:(n:Int)<=s.d:=by
    refine e.1 (Int.not_lt.1 fun x=>hc (.inr x))
   by_cases hb:b.d=0\/s.d<b.d
   ·rw[if_pos hb,if_pos ⟨⟨hn,hq⟩,hb⟩]
    refine⟨rfl,fun x=>?_⟩;rcases hq with y|y
    ·rw[x]at y;cases y
    ·exact y
   ·rw[if_neg hb,if_neg (fun x=>hb x.2)]
    exact⟨rfl,h2⟩
theorem BQ{n:Nat}{sq:Bool}{s:Sz}(h:sS ((max n 1:Nat):Int) sq=(s,0)):jT n sq 30=s.d/\(sq=true->s.r=s.c):=by
 unfold sS at h;split at h
 ·cases h
 ·split at h
  ·cases h
  ·cases h
   exact tQ 30 (Nat.le_refl _)
namespace XZl
def xtr:=zzi @Sz.cells.eq_1 (zzi @Int.cast_ofNat_Int @ite_self.{1})
end XZl
open XZl
theorem HI{H:Heap}{v:Value}{p:List UInt8}{sq:Bool}(hp:SlU H v p):Ev cp H.length 10 [v,.bool sq] H (fun r _=>r=.bool true):=by
 have hp0:=hp;obtain⟨ad,c0,rfl⟩:=hp.len;refine stG rfl rfl ?_;unfold Ni;simp only[kB,aC];refine nH ?_;refine x8 ?_ ?_<;>intro h
 ·clear h
  (try simp only[aC]);refine vX ?_;refine aB (zi (Nat.le_refl _)) ?_;rintro r K ⟨hx,rfl⟩;refine nH ?_;refine N9 ?_;rfl
 have hl:p.length<=120:=by simp at h;omega
 clear h;(try simp only[aC]);refine vX ?_;refine aB (RK (sq:=sq) hp0 byO (Nat.le_refl _)) ?_;rintro r H1 ⟨hx1,cs,i,m,e,gf,q,hm,rfl,-⟩;have hl1:=hx1.1;have hs:=hm.sol;have hsz:(dz i).sz ∈ szs:=oJ.2 ⟨i,hm.lt,rfl⟩;have hhv:=(wT hsz).1;have hle:=BQ hm.fit;have hEl:(kc p cs).length<=5000:=by
  have:=hm.dm;have:=(zd hm.lt).d2;omega
 clear hm hsz;generalize (dz i).sz=s at *;obtain⟨sr,sc,srr,src,sd,sk,sb⟩:=s;simp only at hhv hle ⊢;obtain⟨hl30,hsq⟩:=hle;replace hhv:False\/_:=.inr hhv;replace hl30:False\/_:=.inr hl30;replace hsq:False\/_:=.inr hsq;generalize (sr*sc).toNat=n at *;refine nH ?_;have hE:=Ext.app H1 [some [Value.int .i64 sc,.int .i64 sr,.slice (some ⟨q,0,none⟩) n n]];have g0:(H1++[some [Value.int .i64 sc,.int .i64 sr,.slice (some ⟨q,0,none⟩) n n]]).get H1.length=some _:=aG;have hq1:H1.length<(H1++[some [Value.int .i64 sc,.int .i64 sr,.slice (some ⟨q,0,none⟩) n n]]).length:=by simp
 have hx2:=hx1.trans hE;have hl2:=hx2.1;clear hE hx1;generalize H1++[some [Value.int .i64 sc,.int .i64 sr,.slice (some ⟨q,0,none⟩) n n]]=H2 at *;generalize H1.length=b at *;refine vX ?_;refine aB (Ob (lo:=H.length) (hp0.mono hx2) byO hl2) ?_;rintro r H3 ⟨hx3,C,w,bw,hsol,rfl,-,hw⟩;rw[L6 hs hsol byO]at hw;obtain⟨aw,rfl⟩:=Eb hw;have hl3:=hx3.1;have g0:=hx3.get g0;clear hw hsol hs hx3 hx2 hp hp0;generalize (kc p cs).length=N at *;refine nH ?_;refine x8 ?_ ?_<;>intro h
 ·simp at h
 clear h;(try simp only[aC]);refine vX ?_;refine aB (I6 byO) ?_;rintro r H4 ⟨j,hj,rfl,hg,hx4⟩;have g0:=hx4.get g0;have hl4:=hx4.1;clear hx4 hj;refine nH ?_;refine aa (fun i S H'=>(H4=H')/\∃z0 z2 z4 z6 z11 z12 z13 z14 z15 z16 z17 z18,S=[z0,.bool sq,z2,.pointer (some ⟨b,0,none⟩),z4,.slice aw N N,z6,.slice (some ⟨j,0,some 7⟩) 30 30,.int .i64 (pM sr sc i),.int .i64 (jT N sq i),.int .i64 (i:Nat),z11,z12,z13,z14,z15,z16,z17,z18]) 30 ?_ ?_ ?_ ?_
 ·exact⟨rfl,_,_,_,_,_,_,_,_,_,_,_,_,rfl⟩
 ·rintro i S H' hi ⟨rfl,z0,z2,z4,z6,z11,z12,z13,z14,z15,z16,z17,z18,rfl⟩
  exact⟨_,oL,by simp;try omega⟩
 ·rintro i S H' hi ⟨rfl,z0,z2,z4,z6,z11,z12,z13,z14,z15,z16,z17,z18,rfl⟩
  have e0:=nF (k:=0) hi byO;have e1:=nF (k:=1) hi byO;have e4:=nF (k:=4) hi byO;simp only[Nat.add_zero,Sz.cells,List.getElem?_cons_zero,List.getElem?_cons_succ]at e0 e1 e4;have hs1:=yV (r:=sr) (c:=sc) hi;have hs2:=pO (n:=N) (sq:=sq) hi;have hlen:=jL;generalize pM sr sc i=a at *;generalize pM sr sc (i+1)=a1 at *;generalize jT N sq i=q at *;generalize jT N sq (i+1)=q1 at *;generalize bP i=s at *;obtain⟨r,c,rr,rc,d,k,b'⟩:=s;simp only at e0 e1 e4 hs1 hs2;replace hs1:False\/_:=.inr hs1;replace hs2:False\/_:=.inr hs2;(try simp only[aC]);refine bz (fun S' H'=>H4=H'/\∃z0 z2 z4 z6 z11 z12 z13 z14 z15 z16 z17 z18,S'=[z0,.bool sq,z2,.pointer (some ⟨b,0,none⟩),z4,.slice aw N N,z6,.slice (some ⟨j,0,some 7⟩) 30 30,.int .i64 a1,.int .i64 q,.int .i64 (i:Nat),z11,z12,z13,z14,z15,z16,z17,z18]) ?_ ?_
  ·refine x8 ?_ ?_<;>intro h
   ·have hc:a1=d:=by
     have e:=hs1.resolve_left id;rw[if_pos (by simpa using h)]at e;exact e
    clear hs1 hs2;subst hc;refine nH ?_;exact⟨by trivial,_,_,_,_,_,_,_,_,_,_,_,_,rfl⟩
   ·have hc:a1=a:=by
     have e:=hs1.resolve_left id;rw[if_neg (by simpa using h)]at e;exact e
    clear hs1 hs2;subst hc;(try simp only[aC]);exact⟨by trivial,_,_,_,_,_,_,_,_,_,_,_,_,rfl⟩
  rintro S' H' ⟨rfl,z0,z2,z4,z6,z11,z12,z13,z14,z15,z16,z17,z18,rfl⟩;clear hs1;(try simp only[aC]);refine x8 ?_ ?_<;>intro h
  ·have hc:q1=d:=by
    have e:=hs2.resolve_left id;rw[if_pos (by simpa using h)]at e;exact e
   clear hs2;subst hc;refine nH ?_;exact⟨by trivial,_,_,_,_,_,_,_,_,_,_,_,_,ncM⟩
  ·have hc:q1=q:=by
    have e:=hs2.resolve_left id;rw[if_neg (by simpa using h)]at e;exact e
   clear hs2;subst hc;refine nH ?_;exact⟨by trivial,_,_,_,_,_,_,_,_,_,_,_,_,ncM⟩
 rintro S H' ⟨rfl,z0,z2,z4,z6,z11,z12,z13,z14,z15,z16,z17,z18,rfl⟩;rw[hhv.resolve_left id,hl30.resolve_left id];have hc:(!sq || decide (sr=sc))=true:=by
  cases sq
  ·rfl
  ·simp[hsq.resolve_left id rfl]
 clear hhv hl30 hsq;have hc':(!sq || decide (sc=sr))=true:=by rw[<-hc];simp[eq_comm]
 (try simp only[aC]);refine St ?_;refine aB (zi byO) ?_;rintro r K ⟨hx,rfl⟩;refine nH ?_;refine N9 ?_;rfl
end Go.Proofs.YtmnlgdpdgjbfgaaGreat
