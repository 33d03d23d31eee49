/- Lemmas. -/
import Derived.Test.YtgiojnobcjnibaaGreatDoorH24
import Derived.Shelf.Slices.SearchI
import Derived.Shelf.Slices.Empties
set_option linter.all false
set_option maxHeartbeats 8000000
def XA{P:Prop}(h:P:=by unfold ptN;split<;>(try split)<;>omega):P:=h
namespace Go.Proofs.YtgiojnobcjnibaaGreatDoor
open Go.Abs Go.RS
variable{H:Heap}{lo:Nat}{R:Wq}{S:XV}{v:Value}
set_option maxRecDepth 20000
structure Keep2 (b c:Nat)(H H':Heap):Prop where
 len:H.length<=H'.length
 eq:∀i,i<H.length->i≠b->i≠c->H'.get i=H.get i
theorem Keep2.refl(b c:Nat)(H:Heap):Keep2 b c H H:=⟨Nat.le_refl _,λ_ _ _ _=>rfl⟩
theorem Keep2.get{b c:Nat}{H H':Heap}(h:Keep2 b c H H'){i:Nat}{x:XV}(a:H.get i=some x)(d:i≠b)(e:i≠c):H'.get i=some x:=(h.eq i (Heap.get_lt a) d e).trans a
theorem Keep2.ext{b c:Nat}{H A B:Heap}(h:Keep2 b c H A)(e:Ext A B):Keep2 b c H B:=⟨Nat.le_trans h.len e.1,λi a d f=>(e.2 i<|bd₀ a h.len).trans<|h.eq i a d f⟩
theorem Keep2.set1{b c:Nat}{H A:Heap}(h:Keep2 b c H A)(x:Option XV):Keep2 b c H<|A.set b x:=⟨by simpa using h.len,λi e a d=>by rw[aQ<|Ne.symm a];exact h.eq i e a d⟩
theorem Keep2.set2{b c:Nat}{H A:Heap}(h:Keep2 b c H A)(x:Option XV):Keep2 b c H<|A.set c x:=⟨by simpa using h.len,λi e d a=>by rw[aQ<|Ne.symm a];exact h.eq i e d a⟩
theorem Keep2.own{b c d:Nat}{H A B:Heap}(h:Keep2 b c H A)(k:Keep d A B)(g:H.length<=d):Keep2 b c H B:=⟨Nat.le_trans h.len k.len,λi a e f=>(k.eq i (bd₀ a h.len) byO).trans<|h.eq i a e f⟩
theorem Keep2.toExt{b c:Nat}{A H H':Heap}(h:Keep2 b c H H')(e:Ext A H)(d:A.length<=b)(f:A.length<=c):Ext A H':=⟨Nat.le_trans e.1 h.len,λi a=>(h.eq i (bd₀ a e.1) byO byO).trans<|e.2 i a⟩
def tl:Nat->Stm->Stm
 | 0,s=>s
 | k+1,.seq _ b=>tl k b
 | _+1,s=>s
section
variable {f:FD}[OkC f]
theorem Ch(X:Nat->El f)(er:Nat->Bool)(i:Nat):co (tab (sC er i+1)<|gam X er i)=gam X er i:=jZ λj a=>sF X er i j a
theorem Bm(φ ψ:Nat->Bool)(n:Nat):(sel φ n).filter ψ=sel (λi=>φ i&&ψ i) n:=by unfold sel;rw[List.filter_filter];refine List.filter_congr λi _=>Bool.and_comm _ _
def zM(g:El f)(r b:Nat)(w:List<|El f)(er:Nat->Bool):(sel (bz (plc g w.length) er<|ck (plc g w.length) er w.length r<|syS g r b w) w.length).filter (λi=>decide<|ri (plc g w.length) b r (syS g r b w) (sel (bz (plc g w.length) er<|ck (plc g w.length) er w.length r<|syS g r b w) w.length) i≠0)=sel (λi=>decide<|co (gO g r b w er) i≠co w i) w.length:=by
 rw[Bm];refine FO λi d=>?_;unfold gO;rw[dm,if_pos d];generalize ri (plc g w.length) b r (syS g r b w) (sel (bz (plc g w.length) er<|ck (plc g w.length) er w.length r<|syS g r b w) w.length) i=E;cases j:bz (plc g w.length) er (ck (plc g w.length) er w.length r<|syS g r b w) i with
 | false=>simp
 | true=>
  rw[if_pos rfl,Bool.true_and];refine decide_eq_decide.2 ⟨λh e=>h ?_,λh e=>h ?_⟩
  .have a:co w i-(co w i-E)=co w i-co w i:=by rw[e]
   have c:co w i-(co w i-E)=E:=(show((co w i)-((co w i)-(E)))=(E) from cD [(co w i),(E)] (.add (.v 0)<|.neg<|.add (.v 0)<|.neg<|.v 1) (.v 1) rfl);rw[c,sub_self]at a;exact a
  .rw[e]
   exact(show((co w i)-0)=(co w i) from cD [(co w i)] (.add (.v 0)<|.neg .zero) (.v 0) rfl)
def B3{w:List<|El f}{P:XN}{E:Nat->El f}{j:Nat}(a:j<P.length)(h:E (P.getD j 0)=0):fw w P E (j+1)=fw w P E j:=by
 unfold fw;refine ag λi _=>?_;by_cases e:i=P.getD j 0
 .rw[if_pos<|(fF a i).2<|.inr e,e,h]
  have:co w (P.getD j 0)-0=co w (P.getD j 0):=(show((co w<|P.getD j 0)-0)=(co w<|P.getD j 0) from cD [(co w<|P.getD j 0)] (.add (.v 0)<|.neg .zero) (.v 0) rfl);rw[this];split<;>rfl
 .by_cases h:i ∈ P.take j
  .rw[if_pos h,if_pos<|(fF a i).2<|.inl h]
  .rw[if_neg h,if_neg λb=>((fF a i).1 b).elim h e]
def zK{P:XN}{ψ:Nat->Bool}{j:Nat}(a:j<P.length):(P.take<|j+1).filter ψ=(P.take j).filter ψ++(if ψ (P.getD j 0)=true then[P.getD j 0] else[]):=by
 rw[nF a,List.filter_append];congr 1;by_cases h:ψ (P.getD j 0)=true
 .rw[if_pos h,List.filter_cons_of_pos h,List.filter_nil]
 .rw[if_neg h,List.filter_cons_of_neg h,List.filter_nil]
open XUa
def Lz{g:El f}{W:List<|El f}{r b L s m A n:Nat}{K:Value}(X:∃(z:Nat->Value),S=[z 0,z 1,z 2,z 3,.pointer<|some ⟨L,0,none⟩,.pointer<|some ⟨s,0,none⟩,z 6,z 7,z 8,z 9,z 10,z 11,z 12,z 13,z 14,z 15,z 16,z 17,z 18,.pointer<|some ⟨m,0,none⟩,z 20,z 21,z 22,z 23,z 24,z 25,z 26,z 27,z 28,z 29,z 30,z 31,z 32,z 33,z 34,z 35,z 36,z 37,z 38,z 39,z 40,z 41,z 42,z 43,z 44,z 45,z 46,z 47,z 48,z 49,z 50,z 51,z 52,z 53,z 54,z 55,z 56,z 57,z 58])(c0:lo<=s)(Z:Gn (OkC.ok (f:=f)) g)(hr:r<=10000000)(hb:b<=10000000)(hn:n<=10000000)(Y:W.length=n)(U:H.get A=some (elL W))(g4:H.get L=some (cdC f r b))(B:H.get s=some [.slice none 0 0,.slice none 0 0])(w:H.get m=some [.slice (some ⟨A,0,some 1⟩) n n,K])(V:m≠s)(G:∃a k c,K=.slice a k c)
  (N:∀v H',Keep s H H'->(vE g r b W->v=.tuple #[.agg #[.slice (some ⟨A,0,some 1⟩) n n,K],.int .i64 0])->(¬ vE g r b W->v=mO 17)->R v H') :
  wpS cp lo (tl 15 qk) (gB ⟨0,0,[.node (.ld 2 true)<|.cons (.var 5) .nil,.var 6],.skip,.plain⟩ R) S H:=by
 obtain⟨z,rfl⟩:=X;unfold qk;simp[tl,kB,aC];obtain⟨ac,kc,cc,rfl⟩:=G;have b0:=Heap.get_lt B;have hw:=bO (sp:=some 1) U Y;refine ay ?_;apply aB (ur (f:=f) byO Z hw byO r b byO byO);rintro g0 O ⟨l,F⟩;have p:(ft g r b W).length=r:=aJ _ _;have x:=F;obtain⟨P,Q,rfl⟩:=F.len;rw[p]at x ⊢;have B:=l.get B;have w:=l.get w;have a0:=l.1;clear F;refine aA ?_;apply aP (λi S H'=>O=H'/\(∀j,j<i->co (ft g r b W) j=0)/\∃(z:Nat->Value),S=[z 0,z 1,z 2,z 3,z 4,.pointer<|some ⟨s,0,none⟩,z 6,z 7,z 8,z 9,z 10,z 11,z 12,z 13,z 14,z 15,z 16,z 17,z 18,.pointer<|some ⟨m,0,none⟩,z 20,z 21,.slice P r Q,.int .i64 i,z 24,z 25,z 26,z 27,z 28,z 29,z 30,z 31,z 32,z 33,z 34,z 35,z 36,z 37,z 38,z 39,z 40,z 41,z 42,z 43,z 44,z 45,z 46,z 47,z 48,z 49,z 50,z 51,z 52,z 53,z 54,z 55,z 56,z 57,z 58]) r
 .exact⟨rfl,λj hj=>byO,aH rfl⟩
 .rintro i S H' C ⟨rfl,-,z,rfl⟩
  exact⟨_,aM,Wc⟩
 .rintro i S H' C ⟨rfl,u,z,rfl⟩
  obtain⟨xb,xo,j0,xc,xs,M,gx,o,I⟩:=eS x (by rw[p];omega);rw[p]at M o I;cases M;have d:=o i C;clear o;by_cases t:co (ft g r b W) i=0
  .have J:∀j,j<i+1->co (ft g r b W) j=0:=λj hj=>by
    by_cases e:j=i
    .rw[e];exact t
    .exact u j byO
   rw[t,nK]at d;clear t u;refine aA ?_;refine pt ?_;clear d;refine aA ?_;exact⟨We,J,aH ncM⟩
  .have D:¬ vE g r b W:=λh=>t<|uo.2 h i C
   have e0:=gh t;clear u t;generalize (co (ft g r b W) i).val=q at *;refine aA ?_;refine aK ?_ ?_<;>intro h
   case refine_2=>exfalso;simp at h;omega
   clear h d;refine aA ?_;refine aL ?_;exact N _ _ (c9 l _ _) (λh=>absurd h D) λ_=>rfl
 .rintro S H' ⟨rfl,u,z,rfl⟩
  have y:vE g r b W:=uo.1 u;clear u;refine aA ?_;refine aL ?_;exact N _ _ (c9 l _ _) (λ_=>rfl) λh=>absurd y h
end
section
variable {f:FD}[OkC f]
def wN(s:List<|El f):(xl s).length<=s.length+1:=by have a:=nG<|tab (bml (co s) s.length).1 (Reg.run (co s) s.length).C;rw[aJ]at a;have b:=(oQ (co s) s.length).1;unfold xl;omega
def HV{l:XN}(h:Sl qE H v l)(j:0<l.length):∃b o sp a xs,v=.slice (some ⟨b,o,sp⟩) l.length a/\H.get b=some xs/\(∀i,i<l.length->xs[o+i]?=some (.int .i64 ((l.getD i 0:Nat):Int)))/\o+l.length<=xs.length:=by have⟨b,o,sp,a,xs,c,d,e,g⟩:=h.els 0 j;exact⟨b,o,sp,a,xs,c,d,e,g⟩
def JY{g:Type}{enc:g->Value}{H H':Heap}{l:List g}{n b c:Nat}(h:Sl enc H v l)(m:NewV n v)(e:Keep2 b c H H')(p:b<n)(q:c<n):Sl enc H' v l:=by
 rcases h with h|⟨i,o,sp,a,xs,d,j,k⟩
 .exact .inl h
 .have:=m _ _ _ _ _ d
  exact .inr ⟨i,o,sp,a,xs,d,e.get j byO byO,k⟩
def RepOK(g:El f)(r b:Nat)(w:List<|El f)(er:Nat->Bool)(N:Nat)(v:Value)(H':Heap):Prop:=∃vw vc,v=.tuple #[.agg #[vw,vc],.int .i64 0]/\SlE H' vw (gO g r b w er)/\Sl qE H' vc (sel (λi=>decide<|co (gO g r b w er) i≠co w i) w.length)/\NewV N vw
theorem RepOK.le{g:El f}{r b:Nat}{w:List<|El f}{er:Nat->Bool}{N M:Nat}{v:Value}{H:Heap}(h:RepOK g r b w er N v H)(m:M<=N):RepOK g r b w er M v H:=by have⟨a,c,d,i,j,l⟩:=h;exact⟨a,c,d,i,j,λb o sp k c e=>Nat.le_trans m<|l b o sp k c e⟩
namespace XUd
def xtr:=zzi @Int.cast_ofNat_Int<|zzi @fv.eq_1<|zzi @fvf.eq_1<|zzi @ite_self.{1} (zzi @mf<|zzi @me<|zzi @md<|zzi @cdC.eq_1<|zzi @arC.eq_1<|zzi @fvC.eq_1<|zzi @lN<|zzi @cX<|zzi @gu<|zzi @jU<|zzi @BA @xR)
end XUd
open XUd
def Ly{g:El f}{w:List<|El f}{r b d4 d5 d7:Nat}{er:Nat->Bool}{aw a8 k1:Option Addr}{cw c8 o1:Nat}{vx vi:Value}(hS:∃(z:Nat->Value),S=[z 0,.slice aw w.length cw,z 2,.int .i64 (sC er w.length),.pointer<|some ⟨d4,0,none⟩,.pointer<|some ⟨d5,0,none⟩,z 6,.pointer<|some ⟨d7,0,none⟩,.slice a8 r c8,z 9,z 10,z 11,.slice k1 (ck (plc g w.length) er w.length r<|syS g r b w).length o1,.int .i64 (E4 (plc g w.length) er w.length r (syS g r b w)),vx,vi,.int .i64 ((sel (isR (plc g w.length) er<|ck (plc g w.length) er w.length r<|syS g r b w) w.length).length:Nat),z 17,z 18,z 19,z 20,z 21,z 22,z 23,z 24,z 25,z 26,z 27,z 28,z 29,z 30,z 31,z 32,z 33,z 34,z 35,z 36,z 37,z 38,z 39,z 40,z 41,z 42,z 43,z 44,z 45,z 46,z 47,z 48,z 49,z 50,z 51,z 52,z 53,z 54,z 55,z 56,z 57,z 58])(G2:lo<=d5)(hg:Gn (OkC.ok (f:=f)) g)(hc:CdOK f r b)(b1:r<w.length)(N2:w.length<f.q)(hk:sC er w.length<=r)
  (hw:SlE H (.slice aw w.length cw) w) (g4:H.get d4=some (cdC f r b)) (g5:H.get d5=some [.slice none 0 0,.slice none 0 0]) (g7:H.get d7=some (fvC f)) (h8:SlE H (.slice a8 r c8)<|ft g r b w) (T1:SlE H vx<|(sel (bz (plc g w.length) er<|ck (plc g w.length) er w.length r<|syS g r b w) w.length).map<|plc g w.length) (j1:Sl qE H vi<|sel (bz (plc g w.length) er<|ck (plc g w.length) er w.length r<|syS g r b w) w.length)
  (hR:∀v H',Keep d5 H H'->(¬ DecOK g r b w er->v=mO 17)->(DecOK g r b w er->RepOK g r b w er d5 v H')->R v H') :
  wpS cp lo (tl 10 qk) (gB ⟨0,0,[.node (.ld 2 true)<|.cons (.var 5) .nil,.var 6],.skip,.plain⟩ R) S H:=by
 obtain⟨z,rfl⟩:=hS;have h2:=qle (f:=f);obtain⟨c1,c2,c3⟩:=hc;have hX:=iR (mF hg) (eg hg) (n:=w.length) byO;have O:=λh:DecOK g r b w er=>h.reg (mF hg) (eg hg) byO;have K:=wV g r b w er;have Z:=zM g r b w er;have J:sC er w.length<=r->2*((ck (plc g w.length) er w.length r<|syS g r b w).length-1)+sC er w.length<=r->(sel (isR (plc g w.length) er<|ck (plc g w.length) er w.length r<|syS g r b w) w.length).length=(ck (plc g w.length) er w.length r<|syS g r b w).length-1->vE g r b (gO g r b w er)->DecOK g r b w er:=λh1 h2 h3 h4=>⟨h1,h2,h3,h4⟩;have A:DecOK g r b w er->2*((ck (plc g w.length) er w.length r<|syS g r b w).length-1)+sC er w.length<=r/\(sel (isR (plc g w.length) er<|ck (plc g w.length) er w.length r<|syS g r b w) w.length).length=(ck (plc g w.length) er w.length r<|syS g r b w).length-1/\vE g r b (gO g r b w er):=λh=>⟨h.cap,h.num,h.cw⟩;have H2:=xj (plc g w.length) er w.length r<|syS g r b w;have x1:=kz (bz (plc g w.length) er<|ck (plc g w.length) er w.length r<|syS g r b w) w.length;have z0:∀i ∈ sel (bz (plc g w.length) er<|ck (plc g w.length) er w.length r<|syS g r b w) w.length,i<w.length:=λi V=>(fI.1 V).1;have q2:(sel (bz (plc g w.length) er<|ck (plc g w.length) er w.length r<|syS g r b w) w.length).length<=w.length:=iK _ _;have x2:(sel (isR (plc g w.length) er<|ck (plc g w.length) er w.length r<|syS g r b w) w.length).length<=w.length:=iK _ _;have F2:(ck (plc g w.length) er w.length r<|syS g r b w).length<=r+1:=by
  have:=wN<|jI (plc g w.length) er w.length r<|syS g r b w;rw[jc]at this;rw[IT]at this;unfold ck;omega
 have y1:co (ft g r b w)=syS g r b w:=rfl;have e1:(ft g r b w).length=r:=aJ _ _;generalize sel (bz (plc g w.length) er<|ck (plc g w.length) er w.length r<|syS g r b w) w.length=P at *;generalize (sel (isR (plc g w.length) er<|ck (plc g w.length) er w.length r<|syS g r b w) w.length).length=e at *;generalize (ck (plc g w.length) er w.length r<|syS g r b w).length=m at *;generalize w1:E4 (plc g w.length) er w.length r (syS g r b w)=L at *;clear w1;have Q2:=iK er w.length;generalize sC er w.length=k at *;have A2:=Heap.get_lt g5;unfold qk;simp only[tl,kB,aC];by_cases q0:e=L/\e=m-1/\2*e+k<=r
 case neg=>
  have F1:¬ DecOK g r b w er:=λh=>by
   have h1:=A h;have h3:=O h;exact q0 ⟨h3.symm,h1.2.1,by have:=h1.1;have:=h1.2.1;omega⟩
  have b2:e≠L\/e≠m-1\/r<2*e+k:=byO;clear J A O q0 K Z;refine aK ?_ ?_<;>intro h
  case refine_2=>exfalso;simp at h;omega
  clear h;refine aA ?_;refine aL ?_;exact hR _ _ (c9 (Ext.refl _) _ _) (λ_=>rfl) λh=>absurd h F1
 case pos=>
  obtain⟨rfl,T0,Z1⟩:=q0;have a0:DecOK g r b w er↔vE g r b (gO g r b w er):=⟨λh=>(A h).2.2,λh=>J hk byO T0 h⟩;have a2:e<=m-1/\m-1<=e:=byO;clear J A O T0;refine aK ?_ ?_<;>intro h
  .exfalso;simp at h;omega
  clear h;refine aA ?_;generalize x:H++_=G at *;obtain⟨d,x0⟩:=jX x;clear x;have g2:=Heap.get_lt d;rcases hw.mono x0 with ⟨-,h⟩|⟨xb,xo,X1,xc,xs,X,gx,S0,r2,u2,w2⟩
  .rw[h]at b1;simp at b1
  cases X;refine bV ?_;apply dD (c:=elL w) (Own.nil (b:=G.length) byO) byO byO byO Wr gx byO (by rw[Nat.mul_one];exact S0) (xO w);rintro v4 H4 M Y0 z2;have Q:Ext G H4:=Y0.ext (Ext.refl _)<|Nat.le_refl _;rw[List.nil_append]at M;obtain⟨-,⟨-,h⟩|⟨m',L2,C,rfl,u⟩⟩:=M
  .have:w.length=0:=by rw[<-cX w,h];rfl
   omega
  have B1:m'=w.length:=by rw[cX]at C;omega
  subst B1;clear C S0 gx Y0;have d:=Q.get d;have Q:=x0.trans Q;have K2:=Heap.get_lt u;clear x0;refine aA ?_;generalize x:H4.set H.length _=G4 at *;have D:Ext H G4:=by rw[<-x];exact Q.set<|Nat.le_refl _
  have d:Heap.get G4 H.length=some [.slice (some ⟨G.length,0,some 1⟩) w.length w.length,.slice none 0 0]:=by rw[<-x,aE byO]
  have u:Heap.get G4 G.length=some (elL w):=by rw[<-x,aQ byO];exact u
  have j2:H4.length<=G4.length:=by rw[<-x];simp
  clear x Q;have e0:=D.get g7;have q1:=D.get g4;refine ay ?_;refine aB (RW (f:=f) (b:=b) byO (h8.mono D) (by rw[e1];omega) hX x1 z0 (T1.mono D) byO byO) ?_;rintro Y2 H5 ⟨U,g0,b0⟩;rw[e1,y1]at g0;generalize hE:ri (plc g w.length) b r (syS g r b w) P=E at *;have d:=U.get d;have u:=U.get u;have c0:=D.trans U;have k2:=U.1;clear e0 q1 D U hE;have C:(P.map E).length=P.length:=ay₀ _;have Y:=g0;obtain⟨m1,p1,rfl⟩:=g0.len;rw[C]at Y b0 ⊢;obtain⟨ai,ci,rfl⟩:=j1.len;have L1:=uS w P E;refine aA ?_;refine aP (λi S H'=>Keep2 H.length G.length H5 H'/\Heap.get H' G.length=some (elL<|fw w P E i)/\(∃vc bc,H5.length<=bc/\Heap.get H' H.length=some [.slice (some ⟨G.length,0,some 1⟩) w.length w.length,vc]/\Own lo 1 H' vc bc (jy<|(P.take i).filter λj=>decide<|E j≠0))/\∃(z:Nat->Value),S=[z 0,.slice (some ⟨xb,xo,X1⟩) w.length cw,z 2,z 3,.pointer<|some ⟨d4,0,none⟩,.pointer<|some ⟨d5,0,none⟩,z 6,.pointer<|some ⟨d7,0,none⟩,z 8,z 9,z 10,z 11,z 12,z 13,z 14,.slice ai P.length ci,z 16,z 17,z 18,.pointer<|some ⟨H.length,0,none⟩,.slice m1 P.length p1,.int .i64 i,z 22,z 23,z 24,z 25,z 26,z 27,z 28,z 29,z 30,z 31,z 32,z 33,z 34,z 35,z 36,z 37,z 38,z 39,z 40,z 41,z 42,z 43,z 44,z 45,z 46,z 47,z 48,z 49,z 50,z 51,z 52,z 53,z 54,z 55,z 56,z 57,z 58]) P.length ?_ ?_ ?_ ?_
  .exact⟨Keep2.refl _ _ _,by rw[L1];exact u,⟨_,H5.length,Nat.le_refl _,d,Own.nil byO⟩,aH rfl⟩
  .rintro i S H' V ⟨-,-,-,z,rfl⟩
   exact⟨_,aM,Wc⟩
  .clear u d
   rintro i S H6 V ⟨k6,u,⟨vc,bc,l0,d,l⟩,z,rfl⟩;have t:=k6.toExt c0 (Nat.le_refl _) byO;have z1:=k6.len;have e0:=t.get g7;obtain⟨yb,yo,a3,yc,ys,X,gy,o,T2⟩:=HV j1 byO;cases X;have S2:=Heap.get_lt gy;have gy:=t.get gy;have Y1:=o i V;clear o;obtain⟨vb,vo,Z2,m2,vs,X,gv,o,S1⟩:=eS (JY (n:=G4.length) Y b0 k6 byO byO) (by rw[C];omega);rw[C]at X o S1;cases X;have y:=o i V;rw[As V]at y;clear o;have w0:=zR V;have K1:=z0 _ w0;have B:=zK (ψ:=λj=>decide<|E j≠0) V;have o0:((P.take i).filter λj=>decide<|E j≠0).length<=i:=Nat.le_trans (List.length_filter_le _ _) (by rw[List.length_take];omega);by_cases h0:E (P.getD i 0)=0
   .rw[if_neg (by simpa using h0),List.append_nil]at B
    have W:=B3 (w:=w) V h0;rw[B,W];rw[h0,nK]at y;clear B W h0 w0;generalize P.getD i 0=p at *;refine aA ?_;refine pt ?_;clear y;refine aA ?_;exact⟨k6,u,⟨vc,bc,l0,d,l⟩,aH ncM⟩
   .rw[if_pos (by simpa using h0)]at B
    have W:=wW (w:=w) (E:=E) V;have X0:jy ((P.take<|i+1).filter λj=>decide<|E j≠0)=jy ((P.take i).filter λj=>decide<|E j≠0)++[.int .i64 ((P.getD i 0:Nat):Int)]:=by rw[B];simp[jy]
    have s0:=gh h0;have M2:=n9 w P E i;rw[X0];clear B h0 w0 X0;generalize P.getD i 0=p at *;generalize fw w P E (i+1)=W2 at *;generalize fw w P E i=W1 at *;generalize (P.take i).filter (λj=>decide<|E j≠0)=F at *;obtain⟨zb,zo,b3,o2,zs,X,gz,o,V2⟩:=eS (hw.mono t) byO;cases X;have H0:=o p K1;clear o;refine aA ?_;refine aK ?_ ?_<;>intro h
    case refine_2=>exfalso;simp at h;omega
    clear h s0;refine bV ?_;refine aS (u9 (f:=f) (co w p)<|E p) ?_;rintro v H7 ⟨I,rfl⟩;have u:=I.get u;have d:=I.get d;have gy:=I.get gy;have l:=l.mono I;have k7:=k6.ext I;have B2:=I.1;have a1:=Heap.get_lt u;generalize co w p-E p=q at *;clear gv gz y H0 e0;refine aA ?_;generalize x:H7.set G.length _=G7 at *;have k8:Keep2 H.length G.length H5 G7:=by rw[<-x];exact k7.set2 _
    have Z0:G7.length=H7.length:=by rw[<-x];simp
    have r1:Heap.get G7 G.length=some (elL W2):=by rw[<-x,aE a1]
    have y0:Heap.get G7 H.length=some [.slice (some ⟨G.length,0,some 1⟩) w.length w.length,vc]:=by rw[<-x,aQ byO];exact d
    have N:Own lo 1 G7 vc bc<|jy F:=by rw[<-x];exact l.keep (c9 (Ext.refl _) _ _) byO
    clear x l d u W gy;obtain⟨a',k',rfl,y2,-⟩:=N.len byO;have p2:F.length<=w.length:=byO;refine aA ?_;refine ay ?_;refine dD (c:=[.int .i64 p]) (c':=[.int .i64 p]) (N.mono<|Ext.app _ _) Wr byO byO XO (by rw[<-Z0];exact aI) Wc rfl rfl ?_;rintro v' H9 s r0 A1;have j0:=Ext.app G7 [some [Value.int .i64 p]];simp only[as₀,ak₀,an₀]at s A1;have k9:=(k8.ext j0).own r0 byO;have d:=r0.get (j0.get y0) byO;have u1:=r0.get (j0.get r1) byO;have C2:=s.1;obtain⟨a9,X2,rfl,e2,-⟩:=s.len byO;refine aA ?_;refine⟨k9.set1 _,by rw[aQ byO];exact u1,⟨_,G7.length+(0+1),byO,by rw[aE byO],s.keep (c9 (Ext.refl _) _ _) byO⟩,aH ncM⟩
  .clear u d
   rintro S H6 ⟨k6,u,⟨vc,bc,l0,d,l⟩,z,rfl⟩;rw[List.take_length]at l;rw[K]at u;rw[Z]at l;have t:=k6.toExt c0 (Nat.le_refl _) byO;have g1:=Sl.ofOwn (enc:=qE) l;have G1:=NewV.own l l0;have o0:=ki g r b w er;have z1:=k6.len;apply Lz (f:=f) (aH rfl) byO hg byO byO byO o0 u (t.get g4) (t.get g5) d byO (by obtain⟨a,c,h⟩:=g1.len;exact⟨_,_,_,h⟩);rintro v H7 k7 hy hn;refine hR v H7 ⟨Nat.le_trans t.1 k7.len,λj hj s0=>(k7.eq j (bd₀ hj t.1) s0).trans<|t.2 j hj⟩ (λh=>hn λh1=>h<|a0.2 h1) λh=>⟨_,_,hy<|a0.1 h,?_,?_,NewV.mk byO⟩
   .exact bO (sp:=some 1) (k7.get u byO) o0
   .exact fp g1 G1 k7 byO
end
def kx{lo sz:Nat}{b:Nat}{c:XV}(h:Own lo sz H v b c)(n:Nat)(j:lo<=n):∃a,Own lo sz H v a c/\(a=n\/a=b/\b<H.length):=by
 obtain⟨f,d|⟨m,d,g,i,e⟩⟩:=h
 .exact⟨n,⟨j,.inl d⟩,.inl rfl⟩
 .exact⟨b,⟨f,.inr ⟨m,d,g,i,e⟩⟩,.inr ⟨rfl,Heap.get_lt e⟩⟩
section
variable {f:FD}[OkC f]
open XUd
def Lx{g:El f}{w:List<|El f}{r b d4 d5 d7 b9 bb bl:Nat}{er:Nat->Bool}{aw a8:Option Addr}{cw c8:Nat}(hS:∃(z:Nat->Value),S=[z 0,.slice aw w.length cw,.slice (some ⟨bl,0,none⟩) w.length w.length,.int .i64 (sC er w.length),.pointer<|some ⟨d4,0,none⟩,.pointer<|some ⟨d5,0,none⟩,z 6,.pointer<|some ⟨d7,0,none⟩,.slice a8 r c8,.slice (some ⟨b9,0,none⟩) w.length w.length,.slice (some ⟨bb,0,none⟩) (sC er w.length+1)<|sC er w.length+1,z 11,z 12,z 13,z 14,z 15,z 16,z 17,z 18,z 19,z 20,z 21,z 22,z 23,z 24,z 25,z 26,z 27,z 28,z 29,z 30,z 31,z 32,z 33,z 34,z 35,z 36,z 37,z 38,z 39,z 40,z 41,z 42,z 43,z 44,z 45,z 46,z 47,z 48,z 49,z 50,z 51,z 52,z 53,z 54,z 55,z 56,z 57,z 58])(x1:lo<=d5)(hg:Gn (OkC.ok (f:=f)) g)(hc:CdOK f r b)(z1:r<w.length)(A1:w.length<f.q)(hk:sC er w.length<=r)
  (hw:SlE H (.slice aw w.length cw) w) (g4:H.get d4=some (cdC f r b)) (g5:H.get d5=some [.slice none 0 0,.slice none 0 0]) (g7:H.get d7=some (fvC f)) (h8:SlE H (.slice a8 r c8)<|ft g r b w) (f9:H.get b9=some (elL<|tab w.length<|plc g w.length)) (fb:H.get bb=some (elL<|tab (sC er w.length+1)<|gam (plc g w.length) er w.length)) (hl:H.get bl=some (erL w.length er))
  (hR:∀v H',Keep d5 H H'->(¬ DecOK g r b w er->v=mO 17)->(DecOK g r b w er->RepOK g r b w er d5 v H')->R v H') :
  wpS cp lo (tl 6 qk) (gB ⟨0,0,[.node (.ld 2 true)<|.cons (.var 5) .nil,.var 6],.skip,.plain⟩ R) S H:=by
 obtain⟨z,rfl⟩:=hS;have h2:=qle (f:=f);have u1:=hc;obtain⟨c1,c2,c3⟩:=hc;have hX:=iR (mF hg) (eg hg) (n:=w.length) byO;have T1:=Heap.get_lt g5;have b0:=aJ (sC er w.length+1)<|gam (plc g w.length) er w.length;have Z0:=Ch (plc g w.length) er w.length;have s0:(ft g r b w).length=r:=aJ _ _;have X0:co (ft g r b w)=syS g r b w:=rfl;have Y0:=bO (sp:=none) fb b0;have Z1:=iK er w.length;unfold qk;simp only[tl,kB,aC];refine ay ?_;refine aS (pR (f:=f) (by first|exact Nat.le_refl _|omega) h8 Y0 (by rw[s0];omega) (by rw[b0];omega) r byO) ?_;rintro v Y ⟨a,F1,B1,rfl,Z⟩;rw[Z0,X0]at Z;have j0:min r ((ft g r b w).length+(tab (sC er w.length+1)<|gam (plc g w.length) er w.length).length-1)=r:=by rw[b0,s0];omega
 rw[j0]at Z ⊢;clear j0 Y0 b0 Z0 fb s0 X0;have e0:=a.1;have C:=AY Z (aJ _ _) hk;have e1:(tab r<|cv (syS g r b w)<|gam (plc g w.length) er w.length).drop (sC er w.length)=jI (plc g w.length) er w.length r (syS g r b w):=rfl;rw[e1]at C;have l0:=jc (plc g w.length) er w.length r<|syS g r b w;clear e1 Z;refine bV ?_;apply aB (IV (f:=f) (by exact(by omega:lo<=Y.length)) (by exact C) (by rw[l0];omega));rintro v H2 ⟨F,vl,rfl,V⟩;have V:SlE H2 vl<|ck (plc g w.length) er w.length r<|syS g r b w:=V;have y0:(Reg.run (co<|jI (plc g w.length) er w.length r<|syS g r b w) (jI (plc g w.length) er w.length r<|syS g r b w).length).L=E4 (plc g w.length) er w.length r (syS g r b w):=rfl;rw[y0];clear y0 C l0;have F:=a.trans F;have L1:=F.1;clear a e0;have j1:=V;obtain⟨k1,p1,rfl⟩:=V.len;clear V;generalize g0:ck (plc g w.length) er w.length r (syS g r b w)=lam at *;have W1:lam.length<=100000:=by
  have:=wN<|jI (plc g w.length) er w.length r<|syS g r b w;rw[jc,IT]at this;have e:Kz (jI (plc g w.length) er w.length r<|syS g r b w)=lam:=g0;rw[e]at this;omega
 generalize r1:plc g w.length=X at *;have K1:=aJ w.length X;refine aA ?_;apply aP (λi S H'=>Ext H2 H'/\∃vx bx vi bi,H2.length<=bx/\H2.length<=bi/\bx≠bi/\Own lo 1 H' vx bx (elL<|(sel (bz X er lam) i).map X)/\Own lo 1 H' vi bi (jy<|sel (bz X er lam) i)/\∃(z:Nat->Value),S=[z 0,.slice aw w.length cw,.slice (some ⟨bl,0,none⟩) w.length w.length,.int .i64 (sC er w.length),.pointer<|some ⟨d4,0,none⟩,.pointer<|some ⟨d5,0,none⟩,z 6,.pointer<|some ⟨d7,0,none⟩,.slice a8 r c8,.slice (some ⟨b9,0,none⟩) w.length w.length,z 10,z 11,.slice k1 lam.length p1,.int .i64 (E4 X er w.length r (syS g r b w)),vx,vi,.int .i64 (sel (isR X er lam) i).length,.int .i64 i,z 18,z 19,z 20,z 21,z 22,z 23,z 24,z 25,z 26,z 27,z 28,z 29,z 30,z 31,z 32,z 33,z 34,z 35,z 36,z 37,z 38,z 39,z 40,z 41,z 42,z 43,z 44,z 45,z 46,z 47,z 48,z 49,z 50,z 51,z 52,z 53,z 54,z 55,z 56,z 57,z 58]) w.length
 .exact⟨Ext.refl _,_,H2.length,_,H2.length+1,Nat.le_refl _,byO,byO,Own.nil byO,Own.nil byO,aH rfl⟩
 .rintro i S H' hi ⟨-,vx,bx,vi,bi,-,-,-,-,-,z,rfl⟩
  exact⟨_,aM,Wc⟩
 .rintro i S H3 hi ⟨d,vx,bx,vi,bi,S0,z0,c0,m,l,z,rfl⟩
  have o0:=F.trans d;have S1:=d.1;have f9:=F.get f9;have gl:=o0.get hl;have r0:=o0.get g7;have a0:=d.get f9;have G1:(tab w.length X).getD i 0=X i:=fe hi;have o:=dQ (bz X er lam) i;have p:=dQ (isR X er lam) i;have X1:(sel (bz X er lam) i).length<=i:=iK _ i;have Y1:(sel (isR X er lam) i).length<=i:=iK _ i;have s:bz X er lam i=(er i || isR X er lam i):=rfl;have B:isR X er lam i=(!er i&&decide (hor lam (inv<|X i)=0)):=rfl;have J:=hX.ne i hi;cases K:er i with
  | true=>
   rw[K]at s B;rw[B]at p;rw[if_neg Wc,List.append_nil]at p;rw[s]at o;rw[if_pos Wc]at o;rw[p];clear s B p J;(try simp only[aC]);refine aU (t:=false) aM dY eU (λh=>by cases h) λ_=>?_;(try simp only[aC]);refine aU (t:=false) aM dY eU (λh=>by cases h) λ_=>?_;refine aA ?_;refine pt ?_;(try simp only[aC]);refine aK ?_ ?_<;>intro h
   case refine_2=>cases h
   clear h K gl r0;obtain⟨o1,m,T0⟩:=kx m (H3.length+200) byO;obtain⟨m1,l,H0⟩:=kx l (H3.length+100) byO;refine aA ?_;refine ay ?_;refine dD (c:=[.int .i64 (X i).val]) (m.mono<|Ext.app _ _) Wr byO byO (by rw[cX,ay₀];omega) aI Wc rfl rfl ?_;rintro x0 D y M O;have G:=Ext.app H3 [some [Value.int .i64 (X i).val]];simp only[as₀,ak₀,an₀]at y O;replace O:D.length<=H3.length+2/\H3.length+2<=D.length:=byO;have W:=M.ext (d.trans G) byO;have Q:=(l.mono G).keep M byO;have a0:=W.get f9;clear m l;refine aA ?_;refine ay ?_;refine dD (c:=[.int .i64 i]) (Q.mono<|Ext.app _ _) Wr byO byO XO aI Wc rfl rfl ?_;rintro w0 H7 x N P;have I:=Ext.app D [some [Value.int .i64 i]];simp only[as₀,ak₀,an₀]at x P;replace P:H7.length<=D.length+2/\D.length+2<=H7.length:=byO;have U:=(y.mono I).keep N byO;refine aA ?_;refine⟨N.ext (W.trans I) byO,x0,H3.length+(0+1),w0,D.length+(0+1),byO,byO,byO,?_,?_,aH ncM⟩
   .rw[o,List.map_append,ag₀,al₀,mW];exact U
   .rw[o];simp only[jy,List.map_append,ag₀,al₀];exact x
  | false=>
   rw[K]at s B;have g1:=(j1.mono d);by_cases h0:hor lam (inv<|X i)=0
   .have A:isR X er lam i=true:=by rw[B,h0];simp
    rw[A]at s p;rw[s]at o;rw[if_pos Wc]at o p;have b1:=congrArg List.length p;rw[as₀,List.length_singleton]at b1;clear p s B A;generalize y1:(sel (isR X er lam)<|i+1).length=q1 at *;subst b1;clear y1;generalize (sel (isR X er lam) i).length=q0 at *;(try simp only[aC]);refine aU (t:=true) aM dY eU (λ_=>⟨_,aM,?_⟩) (λh=>by cases h);refine aS (mz (f:=f) (X i) J) ?_;rintro v H4 ⟨u,rfl⟩;have w1:=u.1;(try simp only[aC]);refine aU (t:=true) aM dY eU (λ_=>⟨_,aM,?_⟩) (λh=>by cases h);refine aB (Is (f:=f) (by exact(by omega:lo<=H4.length)) (g1.mono u) byO<|inv<|X i) ?_;rintro v Y ⟨a,rfl⟩;rw[h0,nK];have a:=u.trans a;have m:=m.mono a;have l:=l.mono a;have a0:=a.get a0;have gl:=a.get gl;have a:=d.trans a;have e0:=a.1;clear u h0 r0;refine aA ?_;refine aK ?_ ?_<;>intro h
    case refine_2=>exfalso;simp at h
    clear h;refine aA ?_;refine aK ?_ ?_<;>intro h
    case refine_2=>exfalso;simp at h
    clear h K gl;obtain⟨o1,m,T0⟩:=kx m (Y.length+200) byO;obtain⟨m1,l,H0⟩:=kx l (Y.length+100) byO;refine aA ?_;refine ay ?_;refine dD (c:=[.int .i64 (X i).val]) (m.mono<|Ext.app _ _) Wr byO byO (by rw[cX,ay₀];omega) aI Wc rfl rfl ?_;rintro x0 D y M O;have G:=Ext.app Y [some [Value.int .i64 (X i).val]];simp only[as₀,ak₀,an₀]at y O;replace O:D.length<=Y.length+2/\Y.length+2<=D.length:=byO;have W:=M.ext (a.trans G) byO;have Q:=(l.mono G).keep M byO;have a0:=W.get f9;clear m l;refine aA ?_;refine ay ?_;refine dD (c:=[.int .i64 i]) (Q.mono<|Ext.app _ _) Wr byO byO XO aI Wc rfl rfl ?_;rintro w0 H7 x N P;have I:=Ext.app D [some [Value.int .i64 i]];simp only[as₀,ak₀,an₀]at x P;replace P:H7.length<=D.length+2/\D.length+2<=H7.length:=byO;have U:=(y.mono I).keep N byO;refine aA ?_;refine⟨N.ext (W.trans I) byO,x0,Y.length+(0+1),w0,D.length+(0+1),byO,byO,byO,?_,?_,aH ncM⟩
    .rw[o,List.map_append,ag₀,al₀,mW];exact U
    .rw[o];simp only[jy,List.map_append,ag₀,al₀];exact x
   .have A:isR X er lam i=false:=by rw[B];simp[h0]
    rw[A]at s p;rw[s]at o;rw[if_neg Wc,List.append_nil]at o p;rw[o,p];have a1:=gh h0;clear p s B A o h0;(try simp only[aC]);refine aU (t:=true) aM dY eU (λ_=>⟨_,aM,?_⟩) (λh=>by cases h);refine aS (mz (f:=f) (X i) J) ?_;rintro v H4 ⟨u,rfl⟩;have w1:=u.1;(try simp only[aC]);refine aU (t:=true) aM dY eU (λ_=>⟨_,aM,?_⟩) (λh=>by cases h);refine aB (Is (f:=f) (by exact(by omega:lo<=H4.length)) (g1.mono u) byO<|inv<|X i) ?_;rintro v Y ⟨a,rfl⟩;generalize (hor lam<|inv<|X i).val=q at *;have a:=u.trans a;have m:=m.mono a;have l:=l.mono a;have gl:=a.get gl;have a:=d.trans a;clear u r0;refine aA ?_;refine aK ?_ ?_<;>intro h
    .exfalso;simp at h;omega
    clear h;refine aA ?_;refine aK ?_ ?_<;>intro h
    .exfalso;simp at h;omega
    clear h K gl;refine aA ?_;exact⟨a,vx,bx,vi,bi,S0,z0,c0,m,l,aH ncM⟩
 .rintro S H3 ⟨d,vx,bx,vi,bi,S0,z0,c0,m,l,z,rfl⟩
  have d:=F.trans d;subst r1;subst g0;refine Ly (f:=f) (aH rfl) x1 hg u1 z1 A1 hk (hw.mono d) (d.get g4) (d.get g5) (d.get g7) (h8.mono d) (Sl.ofOwn m) (Sl.ofOwn (enc:=qE) l) ?_;intro v H' k h1 h3;exact hR v H' ⟨Nat.le_trans d.1 k.len,λj hj a1=>(k.eq j (bd₀ hj d.1) a1).trans<|d.2 j hj⟩ h1 h3
end
open Go.Shelf
def I5:Go.Shelf.Ren:=⟨fun|25=>51|31=>97|32=>98|37=>142|n=>n,fun|22=>22|3=>3|4=>4|40=>56|0=>0|n=>n,fun|n=>n⟩
def Sm:Go.Proofs.Lays2.n25 Tryz.prog I5:={
 mixed:=Wf
 f25:=Tryz.func51.trans (congrArg some Wf)
 f31:=Tryz.func97.trans (congrArg some Wf)
 f32:=Tryz.func98.trans (congrArg some Wf)
 f37:=Tryz.func142.trans (congrArg some Wf)
 t0:=Tryz.underlying0
 a0:=Tryz.isAgg0
 z0:=Tryz.sizeOf0
 v0:=Tryz.zeroValue0
 t3:=Tryz.underlying3
 a3:=Tryz.isAgg3
 z3:=Tryz.sizeOf3
 v3:=Tryz.zeroValue3
 t4:=Tryz.underlying4
 a4:=Tryz.isAgg4
 z4:=Tryz.sizeOf4
 v4:=Tryz.zeroValue4
 t22:=Tryz.underlying22
 a22:=Tryz.isAgg22
 z22:=Tryz.sizeOf22
 v22:=Tryz.zeroValue22
 t40:=Tryz.underlying56
 a40:=Tryz.isAgg56
 z40:=Tryz.sizeOf56
 v40:=Tryz.zeroValue56 }
open Classical in
noncomputable def g51(args:XV)(H:Heap):Option Value:=
 if h:∃p:XI×Int,∃v,args=[v,.int .i64 p.2]/\SlI H v p.1/\p.1.Pairwise (·<=·)/\p.1.length<=100000 then some (.tuple #[.int .i64 (h.choose.1.countP (·<h.choose.2):Nat),.bool (h.choose.1.contains h.choose.2)]) else none
theorem J0{l m:XI}(h:SlI H v l)(k:SlI H v m):l=m:=by have⟨a,c,e⟩:=h.len;have⟨a',c',j⟩:=k.len;rw[e]at j;injection j with _ s _;refine List.ext_getElem s λi n p=>?_;have⟨b,o,sp,r,xs,t,u,w,D⟩:=h.els 0 byO;have⟨C,o',A,g,B,f,q,x,F⟩:=k.els 0 byO;rw[t]at f;injection f with f _ _;injection f with f;injection f with y z G;subst y z;rw[u]at q;cases q;have d:=w i n;rw[x i p]at d;injection d with d;injection d with _ d;rw[au₀,au₀,bc₀ n,bc₀ p]at d;exact d.symm
theorem Hm{l:XI}{x:Int}(c:SlI H v l)(i:l.Pairwise (·<=·))(g:l.length<=100000):g51 [v,.int .i64 x] H=some (.tuple #[.int .i64 (l.countP (·<x)),.bool<|l.contains x]):=by have h:∃p:XI×Int,∃b,[v,Value.int .i64 x]=[b,.int .i64 p.2]/\SlI H b p.1/\p.1.Pairwise (·<=·)/\p.1.length<=100000:=⟨(l,x),v,rfl,c,i,g⟩;unfold g51;rw[dif_pos h];have⟨b,e,d,j,k⟩:=h.choose_spec;generalize h.choose=p at *;have⟨m,y⟩:=p;injection e with f a;injection a with a _;injection a with _ a;subst f;simp only at a d;subst a;rw[J0 c d]
def IN(w:World)(q:Nat):Kp w<|w.drewN q:=⟨Nat.le_refl _,λ_ _=>rfl,rfl,rfl⟩
def Q9:xF Tryz.prog 51 2 g51:=by
 refine⟨⟨_,Tryz.func51,Wd,Wd⟩,?_⟩;intro f args H r Q B φ w cargs O A;have J:∃(v:Value) (l:XI) (x:Int),args=[v,.int .i64 x]/\SlI H v l/\l.Pairwise (·<=·)/\l.length<=100000:=by
  unfold g51 at B;split at B
  next h=>
   have⟨p,v,h⟩:=h;exact⟨v,p.1,p.2,h⟩
  .cases B
 obtain⟨v,l,x,rfl,G,L,P⟩:=J;rw[Hm G L P]at B;cases B;obtain⟨c1,r1,rfl,D,A⟩:=A.of_cons;obtain⟨c2,r2,rfl,M,A⟩:=A.of_cons;have K:r2=[]:=List.length_eq_zero_iff.1 A.1.symm;subst K;cases M;have k:∀(a:Int) (t:Bool),VRel φ (.tuple #[.int .i64 a,.bool t])<|.tuple #[.int .i64 a,.bool t]:=λa t=>.tuple _ _ rfl (LRel.arr.1 (show LRel φ (#[Value.int .i64 a,.bool t]).toList (#[Value.int .i64 a,.bool t]).toList from LRel.cons (.int _ _) (LRel.cons (.bool _)<|LRel.nil φ))).2;have s:∀{a:Int} {t:Bool} {e:Ending} {w':World},e=.returned (.tuple #[.int .i64 a,.bool t])/\(∃q,w'=w.drewN q)->∃cv d,e=.returned cv/\VRel d (.tuple #[.int .i64 a,.bool t]) cv/\Eff φ f Tryz.prog.globals.size H.length H w d H w':=by
  rintro a t e w' ⟨rfl,q,rfl⟩;exact⟨_,φ,rfl,k a t,tM O<|IN w q⟩
 cases g:l with
 | nil=>
  subst g;have I:∀(a:Option Addr) (c:Nat),Calls Tryz.prog 51 #[.slice a 0 c,.int .i64 x] w λe w'=>∃cv d,e=.returned cv/\VRel d (.tuple #[.int .i64 (([]:XI).countP (·<x)),.bool<|([]:XI).contains x]) cv/\Eff φ f Tryz.prog.globals.size H.length H w d H w':=λa c=>
   Calls.mono (Any.slices_BinarySearch_int_empty Sm a c x w) λe w' h=>s (a:=(([]:XI).countP (·<x):Nat)) (t:=([]:XI).contains x) ⟨h.1,0,h.2⟩
  obtain⟨a,c,rfl⟩:=G.len;cases D<;>exact I _ _
 | cons y m=>
  rw[<-g];have C:0<l.length:=by rw[g];simp
  obtain⟨b,o,sp,V,xs,rfl,W,N,l1⟩:=G.els 0 C;have F:∀(p:Abs.Place) (o' c':Nat),φ.c b=some p->o'=o->Calls Tryz.prog 51 #[.slice (some ⟨p.b,p.s+o',none⟩) l.length c',.int .i64 x] w λe w'=>∃cv d,e=.returned cv/\VRel d (.tuple #[.int .i64 (l.countP (·<x)),.bool<|l.contains x]) cv/\Eff φ f Tryz.prog.globals.size H.length H w d H w':=by
   rintro p o' c' hp rfl;have U:=Any.slices_BinarySearch_int Sm p.b (p.s+o') l.length c' l x w (Nat.le_refl _) byO (λj X=>by
    have⟨u,hu,hr⟩:=ru O W hp<|N j X;cases hr;rw[Nat.add_assoc];exact hu) (by rw[List.take_length];exact L)
   rw[List.take_length]at U;exact U.mono λe w' h=>s h
  generalize Z:l.length=n at *;cases D with
  | slice i o l c p h=>exact F p o _ h rfl
  | sliceIn i o l c z p o' c' h hc Y ho Z=>
   refine F p o' c' h<|ho.resolve_right λq=>?_;omega
  | empty=>omega
noncomputable def cpL(f:FuncId):Option CF:=if f=208 then some ⟨1,0,[],.skip,.prim g45⟩ else if f=51 then some ⟨2,0,[],.skip,.prim g51⟩ else cpS f
def wu:Sub cpS cpL:=λf cf h=>by
 unfold cpL;split
 next e=>subst e;cases h
 .split
  next e=>subst e;cases h
  .exact h
def jQ:Sub cp cpL:=λf cf h=>wu f cf<|RG f cf h
def TQ:Sub cpT cpL:=λf cf h=>jQ f cf<|y6 f cf h
def TS:Sub cpx cpL:=λf cf h=>by
 unfold cpx at h;unfold cpL;split at h
 next e=>rw[if_pos e];exact h
 next e=>
  rw[if_neg e];split
  next e=>subst e;cases h
  .exact RG f cf h
def EC:je Tryz.prog cpL:=λf cf h=>by
 unfold cpL at h;split at h
 next e=>subst e;cases h;exact .inr ⟨g45,EK,.inl rfl⟩
 split at h
 next e=>subst e;cases h;exact .inr ⟨g51,Q9,.inl rfl⟩
 .unfold cpS at h
  split at h
  next e=>
   subst e;cases h
   exact .inr ⟨g91,Qa,.inr ⟨rfl,λn lo args H r H' a h=>TE rfl n lo args H r H' a h⟩⟩
  .exact .inl<|vW f cf h
def startL:List Bool:=[true,true,true,true,true,true,true,true,false,true,false,true,false,true,false,false,false]
def stopL:List Bool:=[true,true,true,true,true,true,true,false,true,false,false,false,true,false,true,false,false,true]
def t44:nz cpO scS 1100 1000 0 44 [] (.mk 0 .e) (yi (.slice (some ⟨16,0,some 1⟩) 17 17) 16<|startL.map Value.bool)=true:=Wf
def t45:nz cpO scS 1100 1000 0 45 [] (.mk 0 .e) (yi (.slice (some ⟨1,0,none⟩) 18 18) 1<|stopL.map Value.bool)=true:=Wf
def t40:nz cpO scS 1100 1000 0 40 [] (.mk 0 .e) (yi (.slice (some ⟨34,0,some 1⟩) 17 17) 34<|startL.map Value.bool)=true:=Wf
def t41:nz cpO scS 1100 1000 0 41 [] (.mk 0 .e) (yi (.slice (some ⟨36,0,some 1⟩) 18 18) 36<|stopL.map Value.bool)=true:=Wf
def Li{f i n:Nat}{sp:Option Nat}{l:List Bool}(h:nz cpO scS 1100 1000 0 f [] (.mk 0 .e) (yi (.slice (some ⟨i,0,sp⟩) n n) i<|l.map Value.bool)=true)(g:l.length=n)(k:eq3 (.slice (some ⟨i,0,sp⟩) n n) (.slice (some ⟨i,0,sp⟩) n n)=true)(j:(l.map Value.bool).all bU=true)(b:sp=none\/sp=some 1)(a:lo<=H.length) :
  Ev cpL lo f [] H λv H'=>Ext H H'/\SlB H' v l:=by have⟨N,d⟩:=subO;have c:Ev cpO lo f [] H _:=Hb (args:=[]) uT yV h rfl k j a;refine((c.subO d).sub wu).mono λv H' q=>⟨q.1,?_⟩;rw[q.2.1];show SlB H' (.slice (some ⟨(mv0 H.length).f i,0,sp⟩) n n) l;rw[Ib];exact Sl.whole q.2.2 g b
variable {lo:Nat}{H:Heap}
def SE{l:XI}{x:Int}(c:SlI H v l)(b:l.Pairwise (·<=·))(a:l.length<=100000):Ev cpL lo 51 [v,.int .i64 x] H λr H'=>r=.tuple #[.int .i64 (l.countP (·<x)),.bool<|l.contains x]/\H'=H:=tS rfl rfl rfl (Hm c b a) ⟨rfl,rfl⟩
def Ln(a:lo<=H.length):Ev cpL lo 44 [] H λv H'=>Ext H H'/\SlB H' v startL:=Li t44 rfl rfl rfl (.inr rfl) a
def Qc(a:lo<=H.length):Ev cpL lo 45 [] H λv H'=>Ext H H'/\SlB H' v stopL:=Li t45 rfl rfl rfl (.inl rfl) a
def MD(a:lo<=H.length):Ev cpL lo 40 [] H λv H'=>Ext H H'/\SlB H' v startL:=Li t40 rfl rfl rfl (.inr rfl) a
def Qp(a:lo<=H.length):Ev cpL lo 41 [] H λv H'=>Ext H H'/\SlB H' v stopL:=Li t41 rfl rfl rfl (.inr rfl) a
def ya(a b e:Nat):Value:=.tuple #[.int .i64 a,.int .i64 b,.int .i64 e]
def pw(k s c v:Nat):Nat:=if v<cE k s c 1 then 1 else if v<cE k s c 2 then 2 else if v<cE k s c 3 then 3 else if v<cE k s c 4 then 4 else if v<cE k s c 5 then 5 else 6
def pS(ws:Nat->Nat):Nat->Nat
 | 0=>0
 | k+1=>pS ws k+ws k
def cA(ws:Nat->Nat)(c:Nat):Nat->Nat
 | 0=>c
 | k+1=>rsN k (cA ws c k)<|ws k
def nA(ws:Nat->Nat)(c:Nat):Nat->Nat
 | 0=>0
 | k+1=>nA ws c k+cE k (17-pS ws k) (cA ws c k) (ws k-1)
def If(ws:Nat->Nat)(c:Nat)(h:∀k,k<8->ws k<=6):∀k,k<=8->nA ws c k<=6000000*k
 | 0,_=>Nat.le_refl _
 | k+1,e=>by
  have a:=If ws c h k byO;have b:=nm k (17-pS ws k) (cA ws c k)<|ws k-1;have d:=h k byO;simp[nA];omega
def GQ(ws:Nat->Nat){c:Nat}(a:c<9):∀k,cA ws c k<9
 | 0=>a
 | k+1=>oc<|GQ ws a k
def Im{ws:Nat->Nat}:∀{a b:Nat},a<=b->pS ws a<=pS ws b
 | a,0,h=>by
  obtain rfl:a=0:=byO;exact Nat.le_refl _
 | a,b+1,h=>by
  by_cases e:a=b+1
  .subst e;exact Nat.le_refl _
  .have:=Im (ws:=ws) (a:=a) (b:=b) byO
   simp[pS];omega
def clu(ws:Nat->Nat):Nat:=(ws 0+18-ws 2+ws 4-ws 6)%9
theorem J3{k s c:Nat}:cE k s c (min 6 s)=cE k s c 6:=by
 by_cases h:6<=s
 .rw[Nat.min_eq_left h]
 .have:∀d,s+d<=6->cE k s c (s+d)=cE k s c s:=by
   intro d
   induction d with
   | zero=>intro _;rfl
   | succ d a=>
    intro b;show cE k s c (s+d)+bhd k s c (s+d+1)=_;rw[a byO];unfold bhd;rw[if_pos byO];rfl
  have e:=this (6-s) byO;rw[Nat.min_eq_right byO,show s+(6-s)=6 by omega]at *;exact e.symm
def qd(H:Heap)(z x y:Option XV):(H++[z,x]).set (H.length+1) y=H++[z,y]:=by rw[List.set_append_right _ _ byO,show H.length+1-H.length=1 by omega];rfl
def qM(H:Heap)(z:Option XV)(x:XV):Heap.get (H++[z,some x]) (H.length+1)=some x:=by unfold Heap.get;rw[aw₀ byO,show H.length+1-H.length=1 by omega];rfl
def wD(H:Heap)(x:XV)(z:Option XV):Heap.get (H++[some x,z]) H.length=some x:=by unfold Heap.get;rw[aw₀ byO,show H.length-H.length=0 by omega];rfl
def FQ(H:Heap)(z x y:Option XV):(H++[z,x]).set H.length y=H++[y,x]:=by rw[List.set_append_right _ _ byO,show H.length-H.length=0 by omega];rfl
def Ii:oneCells tabV=true:=Wf
theorem kT:tabV.length=1458:=Wf
def Lq{a b:XV}(h:a.length=b.length):putCells a 0 b=b:=by unfold putCells;rw[List.take_zero,List.nil_append,List.drop_eq_nil_of_le byO,List.append_nil]
namespace XKUb
def xtr:=zzi @Int.cast_ofNat_Int<|zzi @ite_self.{1} (zzi @List.length_replicate<|zzi @List.append_nil @Nat.min_self)
end XKUb
open XKUb
def U4(c0:lo<=H.length):Ev cp lo 26 [] H λr H'=>r=.agg ⟨tabV⟩/\Ext H H':=by
 have J:=wy;have q0:(List.replicate 1458<|Value.int .i64 0).length=1458:=Wc
 have n:oneCells (List.replicate 1458<|Value.int .i64 0)=true:=Wf
 have G:=Lq (a:=List.replicate 1458<|Value.int .i64 0) (b:=List.replicate 1458<|Value.int .i64 0) rfl;have s0:=qd H (some<|List.replicate 1458<|Value.int .i64 0) (some<|List.replicate 1458<|Value.int .i64 0)<|some<|(List.replicate 1458<|Value.int .i64 0).set 1296<|.int .i64 1;apply stG rfl rfl;unfold R7;simp only[kB,aC];generalize List.replicate 1458 (Value.int .i64 0)=Z at *;have g0:=qM H (some Z) Z;have s1:=qd H (some Z) (some Z)<|some Z;refine aF ?_;generalize Z.set 1296 (.int .i64 1)=C at *;clear g0 s0 s1 G n;apply aP (λm S H'=>m<=8/\∃d,H'=H++[some Z,some d]/\(m=0/\TabF d (fP 7 0)\/0<m/\TabF d (fP (8-m) 162))/\∃(z:Nat->Value),S=[.pointer<|some ⟨H.length,0,none⟩,.pointer<|some ⟨H.length+1,0,none⟩,.int .i64<|((8-m:Nat):Int)-1,z 3,z 4,z 5,z 6,z 7,z 8,z 9,z 10,z 11,z 12]) 8
 .exact⟨Nat.zero_le _,C,rfl,.inl ⟨rfl,J⟩,aH rfl⟩
 .rintro m S H' hm ⟨-,d,rfl,-,z,rfl⟩
  exact⟨_,bR,Wr⟩
 .clear J
  rintro m S H' hm ⟨-,d,rfl,e,z,rfl⟩;obtain⟨k,F⟩:∃k,8-m=k+1:=⟨7-m,byO⟩;have j:k<8:=byO;have l:8-(m+1)=k:=byO;have e:TabF d<|fP k 0:=by
   rcases e with ⟨h0,B⟩|⟨h0,B⟩
   .have:k=7:=byO
    subst this;exact B
   .rw[F]at B;exact B.congr λi _=>Hd i
  have L:(((k+1:Nat):Int))-1=(k:Nat):=byO;rw[F,L];clear F L;replace l:=Wa l;refine aF ?_;refine aP (λs S H'=>∃d,H'=H++[some Z,some d]/\TabF d (fP k<|9*s)/\∃(z:Nat->Value),S=[.pointer<|some ⟨H.length,0,none⟩,.pointer<|some ⟨H.length+1,0,none⟩,.int .i64 k,.int .i64 s,z 4,z 5,z 6,z 7,z 8,z 9,z 10,z 11,z 12]) 18 ?_ ?_ ?_ ?_
  .exact⟨d,rfl,e,aH rfl⟩
  .rintro s S H' Q ⟨d,rfl,-,z,rfl⟩
   exact⟨_,bR,Wr⟩
  .clear e
   rintro s S H' Q ⟨d,rfl,e,z,rfl⟩;refine aF ?_;apply aP (λc S H'=>∃d,H'=H++[some Z,some d]/\TabF d (fP k<|9*s+c)/\∃(z:Nat->Value),S=[.pointer<|some ⟨H.length,0,none⟩,.pointer<|some ⟨H.length+1,0,none⟩,.int .i64 k,.int .i64 s,.int .i64 c,z 5,z 6,z 7,z 8,z 9,z 10,z 11,z 12]) 9
   .exact⟨d,rfl,e,aH rfl⟩
   .rintro c S H' t ⟨d,rfl,-,z,rfl⟩
    exact⟨_,bR,Wr⟩
   .clear e
    rintro c S H' t ⟨d,rfl,e,z,rfl⟩;refine aF ?_;have M:(if (s:Int)<6 then(s:Int) else 6)=((min 6 s:Nat):Int):=by split<;>omega
    refine aP (λw S H'=>∃d,H'=H++[some Z,some d]/\TabF d (fW k (9*s+c)<|cE k s c w)/\∃(z:Nat->Value),S=[.pointer<|some ⟨H.length,0,none⟩,.pointer<|some ⟨H.length+1,0,none⟩,.int .i64 k,.int .i64 s,.int .i64 c,.int .i64 ((w+1:Nat):Int),z 6,z 7,z 8,z 9,z 10,z 11,z 12]) (min 6 s) ?_ ?_ ?_ ?_
    .exact⟨d,rfl,e.congr λi _=>zI byO i,aH rfl⟩
    .rintro w S H' V ⟨d,rfl,-,z,rfl⟩
     exact⟨_,bR,Wr⟩
    .clear e
     rintro w S H' V ⟨d,rfl,e,z,rfl⟩;have A:=Hf e j byO;have a0:=e.1;have O:=qM H (some Z) d;have p:=e.2 (162*k+(9*s+c)) byO;have x:fW k (9*s+c) (cE k s c w) (162*k+(9*s+c))=cE k s c w:=by unfold fW;rw[if_pos rfl]
     rw[x]at p;have D:162*k+(9*s+c)=k*162+s*9+c:=byO;rw[D]at p;have f:TabF (d.set (k*162+s*9+c)<|.int .i64 ((cE k s c (w+1):Nat):Int))<|fW k (9*s+c)<|cE k s c<|w+1:=by
      refine e.set byO λi hi=>?_;unfold fW;rw[<-D];by_cases q:i=162*k+(9*s+c)
      .rw[if_pos q,if_pos q]
      .rw[if_neg q,if_neg q,if_neg q]
     have g:cE k s c (w+1)=cE k s c w+bhd k s c (w+1):=rfl;have N:cE k s c w<=100000000/\bhd k s c (w+1)<=100000000:=by
      have:=nm k s c w;have:=sV k s c<|w+1;omega
     have hb:d[(k+1)*162+(s-(w+1))*9+rsN k c (w+1)]?=some (.int .i64 ((bhd k s c (w+1):Nat):Int)):=by
      have hr:=oc (k:=k) (c:=c) (w:=w+1) t;have:=A.2 (9*(s-(w+1))+rsN k c (w+1)) byO;rw[show(k+1)*162+(s-(w+1))*9+rsN k c (w+1)=162*(k+1)+(9*(s-(w+1))+rsN k c (w+1)) by omega,this];unfold bhd;rw[if_neg byO]
     have o:=OB (k:=k) (c:=c) (w:=w+1) j t byO;have e0:ptN k (w+1)<=9:=XA
     have j0:=oc (k:=k) (c:=c) (w:=w+1) t;have X:(((k:Nat):Int)+1).toNat=k+1:=byO;have Y:(((s:Nat):Int)-((w+1:Nat):Int)).toNat=s-(w+1):=byO;have W:(((c:Nat):Int)+9-((ptN k (w+1):Nat):Int)).tmod 9=((rsN k c (w+1):Nat):Int):=by
      rw[show((c:Nat):Int)+9-((ptN k (w+1):Nat):Int)=((c+9-ptN k (w+1):Nat):Int) by omega,<-o];rfl
     have l0:w+1<=s:=byO;have I:w+1<=6:=byO;replace g:=Wa g;replace f:=Wa f;replace o:=Wa o;clear D x e V M;refine iU ?_;refine rX rfl<|((DL j I).sub y6).mono ?_;rintro r K ⟨rfl,rfl⟩;refine⟨?_,?_⟩
     .simp only[List.take_succ_cons,List.take_zero,List.all_cons,List.all_nil,Bool.and_true,ac₀]
      exact zd rfl O O
     have P:((cE k s c w:Nat):Int)+((bhd k s c (w+1):Nat):Int)=((cE k s c (w+1):Nat):Int):=by rw[Wb g];omega
     have U:=qd H (some Z) (some d)<|some<|d.set (k*162+s*9+c)<|.int .i64 ((cE k s c (w+1):Nat):Int);generalize rsN k c (w+1)=q at *;refine aF ?_;exact⟨_,We,Wb f,aH ncM⟩
    clear e M;rintro S H' ⟨d,rfl,e,z,rfl⟩;rw[J3]at e;refine aF ?_;exact⟨d,rfl,e.congr<|He j Q t,aH ncM⟩
   clear e;rintro S H' ⟨d,rfl,e,z,rfl⟩;refine aF ?_;exact⟨d,rfl,by rw[show 9*(s+1)=9*s+9 by omega];exact e,aH ncM⟩
  clear e;rintro S H' ⟨d,rfl,e,z,rfl⟩;refine aF ?_;exact⟨byO,d,We,.inr ⟨byO,by rw[Wb l];exact e⟩,aH (by rw[Wb l];rfl)⟩
 clear J;rintro S H' ⟨-,d,rfl,e,z,rfl⟩;have u:=Da (e.resolve_left λh=>by omega).2;subst u;have n:=Ii;have y:=kT;have g1:=wD H Z<|some tabV;have g2:=qM H (some Z) tabV;have o0:List.take 1458 tabV=tabV:=by rw[<-y,List.take_length]
 have b0:List.drop 1458 Z=[]:=List.drop_eq_nil_of_le byO;have s1:=FQ H (some Z) (some tabV)<|some tabV;have g3:=wD H tabV<|some tabV;clear e;generalize tabV=T at *;refine aF ?_;refine bD ?_;exact⟨rfl,Ext.app _ _⟩
def JK{k:Nat}(b:k<=8):OV tabV k:=by refine⟨kT,λi a=>?_⟩;rw[tabV,az₀,<-y7,az₀,List.getElem?_range byO];simp[Option.map_some];rw[pd a];rfl
def pcs(f:Nat->Nat)(k:Nat):XV:=(List.range 8).map λi=>.int .i64 ((if i<k then f i else 0:Nat):Int)
end Go.Proofs.YtgiojnobcjnibaaGreatDoor
