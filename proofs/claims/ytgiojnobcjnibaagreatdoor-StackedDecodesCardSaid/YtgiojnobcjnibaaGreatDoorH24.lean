/- Lemmas. -/
import Derived.Test.YtgiojnobcjnibaaGreatDoorH23
set_option linter.all false
set_option maxHeartbeats 4000000
set_option maxRecDepth 20000
def XO{P:Prop}(h:P:=by rw[ko];omega):P:=h
namespace Go.Proofs.YtgiojnobcjnibaaGreatDoor
open Go.Abs Go.RS
section
section
variable {f:FD}[OkC f]
def dcC(f:FD)(be bl r b n bw bE s:Nat)(vv vs vl vp:Value):XV:=
 [(FD.ch f),f.q,.slice (some ⟨be,0,none⟩) (f.q-1)<|f.q-1,.slice (some ⟨bl,0,none⟩) f.q f.q,
  (FD.ch f),f.q,f.poly,r,b,
  .slice (some ⟨bw,0,some 1⟩) n n,.slice (some ⟨bE,0,none⟩) n n,s,vv,vs,vl,vp]
def erL(n:Nat)(er:Nat->Bool):XV:=(List.range n).map λi=>.bool<|er i
def xR(n:Nat)(er:Nat->Bool):(erL n er).length=n:=by simp[erL]
def BA{n:Nat}{er:Nat->Bool}{i:Nat}(h:i<n):(erL n er)[i]?=some (.bool<|er i):=by simp[erL,h]
structure Dc (H:Heap)(g:El f)(d be bl r b bw bE s:Nat)(w:List<|El f)(er:Nat->Bool)(vv vs vl vp:Value):Prop where
 box:H.get d=some (dcC f be bl r b w.length bw bE s vv vs vl vp)
 ar:ArH H g be bl
 word:H.get bw=some (elL w)
 eras:H.get bE=some (erL w.length er)
 h1:be<bw
 h2:bl<bw
 h3:bw<bE
 h4:bE<d
variable {lo:Nat}{H:Heap}{g:El f}{d be bl r b bw bE s:Nat}{w:List (El f)}{er:Nat->Bool}{vv vs vl vp:Value}
theorem Dc.mono{H':Heap}(h:Dc H g d be bl r b bw bE s w er vv vs vl vp)(e:Ext H H'):Dc H' g d be bl r b bw bE s w er vv vs vl vp:=
 ⟨e.get h.box,h.ar.mono e,e.get h.word,e.get h.eras,h.h1,h.h2,h.h3,h.h4⟩
theorem Dc.keep{H':Heap}{j i a c:Value}(h:Dc H g d be bl r b bw bE s w er vv vs vl vp)(e:Keep d H H')(k:H'.get d=some (dcC f be bl r b w.length bw bE s j i a c)):Dc H' g d be bl r b bw bE s w er j i a c:=by have h1:=h.h1;have h2:=h.h2;have h3:=h.h3;have h4:=h.h4;exact⟨k,h.ar.keep e byO byO,e.get h.word byO,e.get h.eras byO,h1,h2,h3,h4⟩
def c9{H H':Heap}(h:Ext H H')(d:Nat)(x:Option XV):Keep d H<|H'.set d x:=⟨by simpa using h.1,λi c a=>by rw[aQ<|Ne.symm a];exact h.2 i c⟩
def fU{b:Nat}{A B C:Heap}(h:Keep b A B)(k:Keep b B C):Keep b A C:=⟨Nat.le_trans h.len k.len,λi c a=>(k.eq i (bd₀ c h.len) a).trans<|h.eq i c a⟩
def hU{b:Nat}{A B:Heap}(h:Ext A B):Keep b A B:=⟨h.1,λi a _=>h.2 i a⟩
def Ku{d:Nat}{H L:Heap}{x:Option XV}:Keep d H<|H.set d x++L:=⟨Wc,λi c a=>by grind[fT,aQ]⟩
def Hp{d:Nat}{H L:Heap}{c:XV}(h:d<H.length):Heap.get (H.set d (some c)++L) d=some c:=by grind[fT,aE]
theorem Hq{d:Nat}{H L:Heap}{x:Option XV}{c:XV}:Heap.get (H.set d x++(some c::L)) H.length=some c:=by grind[aI]
namespace XSa
def xtr:=zzi @Int.cast_ofNat_Int<|zzi @fv.eq_1<|zzi @fvf.eq_1<|zzi @ite_self.{1} (zzi @mf<|zzi @me<|zzi @md<|zzi @cdC.eq_1<|zzi @arC.eq_1<|zzi @dcC.eq_1<|zzi @lN<|zzi @cX<|zzi @gu<|zzi @jU<|zzi @BA @xR)
end XSa
open XSa
def yF(c:Dc H g d be bl r b bw bE s w er vv vs vl vp)(e:w.length<=100000000)(i:Nat)(j:i<w.length):Ev cp lo 179 [.pointer<|some ⟨d,0,none⟩,i] H λv H'=>H'=H/\v=((w.length-1-i:Nat):Int):=by have h:=c.box;have a:((w.length-1-i:Nat):Int)=(w.length:Int)-1-i:=byO;rw[a];apply stG rfl rfl;unfold NO;simp[kB,aC];refine aA ?_;refine aL ?_;exact⟨rfl,rfl⟩
def I7(u:lo<=d)(q:Gn (OkC.ok (f:=f)) g)(c:Dc H g d be bl r b bw bE s w er vv vs vl vp)(k:w.length<=100000000)(x:r<=100000000)(p:b<=100000000) :
  Ev cp lo 133 [.pointer<|some ⟨d,0,none⟩] H λv H'=>v=(decide<|s<=r)/\Keep d H H'/\∃a,Dc H' g d be bl r b bw bE s w er a vs vl vp/\SlE H' a (ft g r b w)/\NewV H.length a:=by have h:=c.box;have y:=Heap.get_lt h;apply stG rfl rfl;unfold Ml;simp[kB,aC];refine aA ?_;refine ay ?_;apply aB (uq byO q c.ar (bO (sp:=some 1) c.word rfl) k r b x p);rintro v m ⟨e,n,i,rfl,o⟩;have j:=c.mono e;have h:=j.box;have t:=Heap.get_lt h;refine aA ?_;refine aL ?_;have l:Keep d H<|m.set d<|some<|dcC f be bl r b w.length bw bE s (.slice (some ⟨n,0,none⟩) r r) vs vl vp:=c9 e _ _;refine⟨XT,l,_,c.keep l<|aE byO,?_,NewV.mk i⟩;exact bO (by rw[aQ byO];exact o)<|aJ _ _
theorem JB(p:List<|El f)(X:El f):oD p p 1 X=tab (p.length+1) (cv (lin X)<|co p):=by
 unfold oD;rw[show max p.length (p.length+1)=p.length+1 by omega];refine ag λi a=>?_;cases i with
 | zero=>rw[pD,nD _ byO];exact(show((co p 0)-((X)*0))=(co p 0) from cD [(co p 0),(X)] (.add (.v 0)<|.neg<|.mul (.v 1) .zero) (.v 0) rfl)
 | succ i=>grind[oT,lA]
theorem jZ{n:Nat}{F:Ser<|El f}(h:∀i,n<=i->F i=0):co (tab n F)=F:=by
 grind[dm]
theorem sF(X:Nat->El f)(er:Nat->Bool)(n:Nat):∀i,sC er n+1<=i->gam X er n i=0:=by intro i a;rw[xY];exact ec _ i (by grind[sC])
theorem kJ(er:Nat->Bool)(n:Nat):sC er (n+1)=sC er n+if er n=true then 1 else 0:=by grind[sC,dQ]
def iK(er:Nat->Bool):∀n,sC er n<=n
 | 0=>Nat.le_refl _
 | n+1=>by have:=iK er n;rw[kJ];split<;>omega
def PM(U:lo<=d)(J:Gn (OkC.ok (f:=f)) g)(q:Dc H g d be bl r b bw bE s w er vv vs vl vp)(W:w.length<=10000000) :
  Ev cp lo 134 [.pointer<|some ⟨d,0,none⟩] H λv H'=>v=.bool true/\Keep d H H'/\∃x,Dc H' g d be bl r b bw bE s w er vv x vl vp/\SlE H' x (tab (sC er w.length+1)<|gam (plc g w.length) er w.length)/\NewV H.length x:=by
 have D:=q.box;have P:=Heap.get_lt D;have k1:=q.h1;have k2:=q.h2;have k3:=q.h3;have k4:=q.h4;apply stG rfl rfl;unfold Mm;simp[kB,aC];refine aA ?_;generalize A:List.set H d _++_=G at *;have y:Keep d H G:=by rw[<-A];exact Ku
 have F:Heap.get G d=some (dcC f be bl r b w.length bw bE s vv (.slice (some ⟨H.length,0,none⟩) 1 1) vl vp):=by rw[<-A];exact Hp P
 have I:Heap.get G H.length=some (elL<|tab 1 (s1:Ser<|El f)):=by rw[<-A,Hq];rfl
 clear A;apply aP (λi S H'=>Keep d H H'/\∃o,H.length<=o/\Heap.get H' d=some (dcC f be bl r b w.length bw bE s vv (.slice (some ⟨o,0,none⟩) (sC er i+1)<|sC er i+1) vl vp)/\Heap.get H' o=some (elL<|tab (sC er i+1)<|gam (plc g w.length) er i)/\∃(z:Nat->Value),S=[.pointer<|some ⟨d,0,none⟩,.bool false,z 2,z 3,z 4,z 5,.slice (some ⟨bE,0,none⟩) w.length w.length,w.length,i,z 9,z 10,z 11,z 12,z 13,z 14,z 15,z 16,z 17,z 18,z 19]) w.length
 .exact⟨y,H.length,Nat.le_refl _,F,I,aH rfl⟩
 .rintro i S H' K ⟨m,o,k,j,p,z,rfl⟩
  exact⟨_,aM,Wc⟩
 .clear D F I y
  rintro i S L K ⟨m,o,k,j,p,z,rfl⟩;have l:=q.keep m j;have Z:=l.eras;have V:=iK er i;have c:=kJ er i;have a:gam (plc g w.length) er (i+1)=if er i=true then cv (lin<|plc g w.length i) (gam (plc g w.length) er i) else gam (plc g w.length) er i:=rfl
  refine aA ?_;refine aK ?_ ?_<;>intro h
  .rw[h,if_pos rfl]at c a
   rw[c,a];clear h c a;refine bV ?_;refine aS (yF l byO i K) ?_;rintro v M ⟨rfl,rfl⟩;refine bV ?_;refine aS (uU J l.ar (w.length-1-i) byO) ?_;rintro v M ⟨e,rfl⟩;have B:=l.mono e;have j:=e.get j;have p:=e.get p;have Q:=m.len;have R:=e.1;have t:=bO (sp:=none) p<|aJ _ _;refine bV ?_;apply dz (DU (n:=1) byO J B.ar t t Xc Xc byO<|plc g w.length i);rintro v Y ⟨u,N,O,rfl,C⟩;have X:=u.1;rw[JB,jZ<|sF _ _ _,aJ]at C ⊢;rw[aJ];have j:=u.get j;clear t;refine aA ?_;refine⟨fU m<|c9 (e.trans u) _ _,N,byO,aE byO,?_,aH ncM⟩;rw[aQ byO];exact C
  .rw[h,if_neg Wc]at c a
   rw[c,a];clear h c a;refine aA ?_;exact⟨m,o,k,j,p,aH ncM⟩
 .rintro S L ⟨m,o,k,j,p,z,rfl⟩
  refine aA ?_;refine aL ?_;exact⟨rfl,m,_,q.keep m j,bO p<|aJ _ _,NewV.mk k⟩
def AY{c r s:Nat}{l:List<|El f}(h:H.get c=some (elL l))(i:l.length=r)(j:s<=r):SlE H (.slice (some ⟨c,if r=s then 0 else s,none⟩) (r-s)<|r-s)<|l.drop s:=by
 have a:(l.drop s).length=r-s:=Wx
 refine .inr ⟨c,_,none,r-s,_,by rw[a],h,?_,?_,.inl rfl,byO⟩
 all_goals grind[List.length_drop,elL,List.map_drop]
theorem IT(s:List<|El f):xl s=Kz s:=rfl
def LA(L:lo<=d)(B:Gn (OkC.ok (f:=f)) g)(t:Dc H g d be bl r b bw bE (sC er w.length) w er vv vs vl vp)(P:w.length<=10000000)(U:r<=10000000)(y:sC er w.length<=r)(O:SlE H vv<|ft g r b w)(M:SlE H vs<|tab (sC er w.length+1)<|gam (plc g w.length) er w.length) :
  Ev cp lo 135 [.pointer<|some ⟨d,0,none⟩] H λv H'=>v=(decide<|2*((ck (plc g w.length) er w.length r<|syS g r b w).length-1)+sC er w.length<=r)/\Keep d H H'/\∃k,Dc H' g d be bl r b bw bE (sC er w.length) w er vv vs k vp/\SlE H' k (ck (plc g w.length) er w.length r<|syS g r b w)/\NewV H.length k:=by
 have m:=t.box;have S:=Heap.get_lt m;have N:=iK er w.length;apply stG rfl rfl;unfold Mn;simp[kB,aC];refine aA ?_;refine ay ?_;apply aB (uW byO B t.ar O M (by unfold ft;rw[aJ];omega) Xc r byO);rintro v G ⟨j,Q,I,rfl,A⟩;have i:=t.mono j;have m:=i.box;have J:=Heap.get_lt m;rw[jZ<|sF _ _ _]at A;have o:((r:Int)-(sC er w.length:Nat))=((r-sC er w.length:Nat):Int):=byO;refine aA ?_;refine ay ?_;have n:lo<=G.length:=byO;apply aB (IU n B i.ar (AY A (aJ _ _) y) (by rw[List.length_drop,aJ];omega));rintro v q ⟨p,a,h⟩;have a:SlE q v<|ck (plc g w.length) er w.length r<|syS g r b w:=a;have c:=xh (plc g w.length) er w.length r<|syS g r b w;have F:1<=(ck (plc g w.length) er w.length r<|syS g r b w).length:=by
  apply Decidable.byContradiction;intro R;rw[mM byO]at c;exact jq c.symm
 have D:(ck (plc g w.length) er w.length r<|syS g r b w).length<=20000000:=by
  apply Nat.le_trans (nG _);rw[aJ];have:=(oQ (co<|jI (plc g w.length) er w.length r<|syS g r b w) (jI (plc g w.length) er w.length r<|syS g r b w).length).1;rw[jc]at this;rw[jc];omega
 generalize ck (plc g w.length) er w.length r (syS g r b w)=lam at *;have u:=i.mono p;have m:=u.box;have K:=Heap.get_lt m;obtain⟨z,l,rfl⟩:=a.len;refine aA ?_;refine aL ?_;have C:Keep d H<|q.set d<|some<|dcC f be bl r b w.length bw bE (sC er w.length) vv vs (.slice z lam.length l) vp:=c9 (j.trans p) _ _;have x:Keep d q<|q.set d<|some<|dcC f be bl r b w.length bw bE (sC er w.length) vv vs (.slice z lam.length l) vp:=c9 (Ext.refl _) _ _;refine⟨?_,C,_,t.keep C<|aE byO,fp a h x byO,h.mono j.1⟩;have e:((2*((lam.length:Int)-1)+(sC er w.length:Nat)<=(r:Int))↔(2*(lam.length-1)+sC er w.length<=r)):=byO;simp[aR,e]
end
section
variable {f:FD}[OkC f]{lo:Nat}{H:Heap}{g:El f}{d be bl r b bw bE s:Nat}{w:List (El f)}{er:Nat->Bool}{vv vs vl vp:Value}
def jy(l:XN):XV:=l.map λi=>(i:Nat)
theorem ko(l:XN):(jy l).length=l.length:=by simp[jy]
theorem uo{g:El f}{r b:Nat}{w:List<|El f}:(∀k,k<r->co (ft g r b w) k=0)↔vE g r b w:=by
 constructor
 .intro h k a
  grind[ft,dm]
 .intro h k a
  unfold ft;rw[dm,if_pos a];exact h k a
open XSa
def Oj(l:lo<=H.length)(D:Gn (OkC.ok (f:=f)) g)(j:Dc H g d be bl r b bw bE s w er vv vs vl vp)(F:w.length<=10000000)(L:r<=10000000)(I:b<=10000000) :
  Ev cp lo 138 [.pointer<|some ⟨d,0,none⟩] H λv H'=>Ext H H'/\∃t,v=.bool t/\(t=true↔vE g r b w):=by
 have A:=j.box;have K:=Heap.get_lt A;rw[<-uo];apply stG rfl rfl;unfold Mq;simp only[kB,aC];refine aA ?_;refine ay ?_;apply aB (uq l D j.ar (bO (sp:=some 1) j.word rfl) byO r b byO byO);rintro v x ⟨c,y,B,rfl,G⟩;have n:(ft g r b w).length=r:=aJ _ _;have u:r<=(ft g r b w).length/\(ft g r b w).length<=r:=byO;generalize ft g r b w=p at *;refine aA ?_;apply aP (λi S H'=>x=H'/\(∀k,k<i->co p k=0)/\∃(z:Nat->Value),S=[.pointer<|some ⟨d,0,none⟩,.bool false,z 2,.slice (some ⟨y,0,none⟩) r r,r,i]) r
 .exact⟨rfl,byO,aH rfl⟩
 .rintro i S H' q ⟨rfl,-,z,rfl⟩
  exact⟨_,aM,Wc⟩
 .rintro i S H' q ⟨rfl,a,z,rfl⟩
  refine aA ?_;refine aK ?_ ?_<;>intro h
  .have m:¬ ∀k,k<r->co p k=0:=by
    intro o;have:=o i q;unfold co at this;rw[this,nK]at h;grind
   refine aA ?_;refine aL ?_;exact⟨c,false,rfl,by simp[m]⟩
  .have o:co p i=0:=by
    apply Decidable.byContradiction;intro C;have:=gh C;unfold co at this;simp at h this;omega
   refine aA ?_;refine⟨We,λk J=>?_,aH ncM⟩;by_cases e:k=i
   .rw[e];exact o
   .exact a k byO
 .rintro S H' ⟨rfl,a,z,rfl⟩
  refine aA ?_;refine aL ?_;exact⟨c,true,rfl,by simp;exact a⟩
def za{d c:Nat}{H A B:Heap}(h:Keep d H A)(k:Keep c A B)(j:H.length<=c):Keep d H B:=⟨Nat.le_trans h.len k.len,λi e a=>(k.eq i (bd₀ e h.len) byO).trans<|h.eq i e a⟩
def nU{d:Nat}{H A:Heap}(h:Keep d H A)(x:Option XV):Keep d H<|A.set d x:=fU h<|c9 (Ext.refl _) d x
theorem AM(a:Gn (OkC.ok (f:=f)) g){n i:Nat}(e:n<=f.q-1)(c:i<n):pw g (f.q-1-(n-1-i))=inv (plc g n i):=by exact(IG (eg a).2.1 byO).symm
def MH(l0:lo<=d)(Y:Gn (OkC.ok (f:=f)) g){lam:List<|El f}(I:Dc H g d be bl r b bw bE s w er vv vs vl<|.slice none 0 0)(c0:w.length<=f.q-1)(F:SlE H vl lam)(Q:NewV (d+1) vl)(j0:lam.length<=20000000)(a0:1<=lam.length) :
  Ev cp lo 136 [.pointer<|some ⟨d,0,none⟩] H λv H'=>v=.bool (decide<|(sel (isR (plc g w.length) er lam) w.length).length=lam.length-1)/\Keep d H H'/\∃k A,Dc H' g d be bl r b bw bE s w er vv vs vl k/\H.length<=A/\Own lo 1 H' k A (jy<|sel (bz (plc g w.length) er lam) w.length):=by
 have W:=I.box;have hl:=Heap.get_lt W;have hq:=qle (f:=f);have k1:=I.h1;have k2:=I.h2;have k3:=I.h3;have k4:=I.h4;obtain⟨al,V,rfl⟩:=F.len;apply stG rfl rfl;unfold Mo;simp only[kB,aC];refine aA ?_;apply aP (λi S H'=>Keep d H H'/\∃k A,H.length<=A/\Heap.get H' d=some (dcC f be bl r b w.length bw bE s vv vs (.slice al lam.length V) k)/\Own lo 1 H' k A (jy<|sel (bz (plc g w.length) er lam) i)/\∃(z:Nat->Value),S=[.pointer<|some ⟨d,0,none⟩,.bool false,.int .i64 ((sel (isR (plc g w.length) er lam) i).length:Nat),z 3,z 4,z 5,.slice (some ⟨bE,0,none⟩) w.length w.length,.int .i64 w.length,.int .i64 i,z 9,z 10,z 11,z 12,z 13,z 14,z 15,z 16,z 17,z 18,z 19,z 20,z 21,z 22]) w.length
 .exact⟨hU<|Ext.refl _,_,H.length,Nat.le_refl _,W,Own.nil byO,aH rfl⟩
 .rintro i S H' Z ⟨B,k,A,u,p,a,z,rfl⟩
  exact⟨_,aM,Wc⟩
 .clear W
  rintro i S H1 Z ⟨B,k,A,u,p,a,z,rfl⟩;have C:=I.keep B p;have ge:=C.eras;have K:=fp F Q B byO;have l:=dQ (isR (plc g w.length) er lam) i;have m:=dQ (bz (plc g w.length) er lam) i;have b0:(sel (isR (plc g w.length) er lam) i).length<=i:=iK _ i;have q0:(sel (bz (plc g w.length) er lam) i).length<=i:=iK _ i;have a0:=B.len;refine aA ?_;refine ay ?_;refine aS (yF C byO i Z) ?_;rintro v H2 ⟨rfl,rfl⟩;have R:((f.q:Int)-1-((w.length-1-i:Nat):Int))=((f.q-1-(w.length-1-i):Nat):Int):=byO;refine bV ?_;apply aB (uU Y C.ar (f.q-1-(w.length-1-i)) byO);rintro v H3 ⟨o,rfl⟩;rw[AM Y c0 Z];have X:=C.mono o;have L:=K.mono o;have a:=a.mono o;have p:=o.get p;have ge:=o.get ge;have e0:=o.1;clear R;refine aA ?_;cases N:er i with
  | true=>
   have D:bz (plc g w.length) er lam i=true:=by unfold bz;rw[N];rfl
   have n:isR (plc g w.length) er lam i=false:=by unfold isR;rw[N];rfl
   rw[D,if_pos rfl]at m;rw[n,if_neg Wc,List.append_nil]at l;rw[l];have M:jy (sel (bz (plc g w.length) er lam)<|i+1)=jy (sel (bz (plc g w.length) er lam) i)++[.int .i64 i]:=by rw[m];simp[jy]
   clear D n l m;refine aU (t:=false) aM dY eU (λh=>by cases h) λ_=>?_;(try simp only[aC]);refine pt ?_;(try simp only[aC]);refine aK ?_ ?_<;>intro h
   case refine_2=>cases h
   clear h;refine aA ?_;refine ay ?_;refine dD (c:=[.int .i64 i]) (a.mono<|Ext.app _ _) Wr byO byO XO aI Wc rfl rfl ?_;rintro v' U j x y;have P:=Ext.app H3 [some [Value.int .i64 i]];have p:=x.get (P.get p) byO;simp only[as₀,ak₀,an₀]at j;have J:=za (fU B<|hU<|o.trans P) x u;have y:d<U.length:=Heap.get_lt p;obtain⟨a4,n4,rfl,-,-⟩:=j.len byO;refine aA ?_;refine⟨nU J _,_,H3.length+(0+1),byO,aE y,?_,aH ncM⟩;rw[M];exact j.keep (c9 (Ext.refl _) _ _) byO
  | false=>
   refine aU (t:=true) aM dY eU (λ_=>⟨_,aM,?_⟩) (λh=>by cases h);refine aB (By byO Y X.ar L byO<|inv<|plc g w.length i) ?_;rintro v H5 ⟨q,rfl⟩;have a:=a.mono q;have p:=q.get p;have h0:=q.1;have q:=o.trans q;by_cases O:hor lam (inv<|plc g w.length i)=0
   .have D:bz (plc g w.length) er lam i=true:=by unfold bz isR;rw[N,decide_eq_true O];rfl
    have n:isR (plc g w.length) er lam i=true:=by unfold isR;rw[N,decide_eq_true O];rfl
    rw[D,if_pos rfl]at m;rw[n,if_pos rfl]at l;have M:jy (sel (bz (plc g w.length) er lam)<|i+1)=jy (sel (bz (plc g w.length) er lam) i)++[.int .i64 i]:=by rw[m];simp[jy]
    have G:(sel (isR (plc g w.length) er lam)<|i+1).length=(sel (isR (plc g w.length) er lam) i).length+1:=by rw[l];simp
    rw[O,nK,G];clear D n l m G;(try simp only[aC]);refine aK ?_ ?_<;>intro h
    case refine_2=>simp at h
    clear h;refine aA ?_;refine ay ?_;refine dD (c:=[.int .i64 i]) (a.mono<|Ext.app _ _) Wr byO byO XO aI Wc rfl rfl ?_;rintro v' U j x y;have P:=Ext.app H5 [some [Value.int .i64 i]];have p:=x.get (P.get p) byO;simp only[as₀,ak₀,an₀]at j;have J:=za (fU B<|hU<|q.trans P) x u;have y:d<U.length:=Heap.get_lt p;obtain⟨a4,n4,rfl,-,-⟩:=j.len byO;refine aA ?_;refine⟨nU J _,_,H5.length+(0+1),byO,aE y,?_,aH ncM⟩;rw[M];exact j.keep (c9 (Ext.refl _) _ _) byO
   .have D:bz (plc g w.length) er lam i=false:=by unfold bz isR;rw[N,decide_eq_false O];rfl
    have n:isR (plc g w.length) er lam i=false:=by unfold isR;rw[N,decide_eq_false O];rfl
    have o0:=gh O;rw[D,if_neg Wc,List.append_nil]at m;rw[n,if_neg Wc,List.append_nil]at l;rw[l,m];clear D n l m;(try simp only[aC]);refine aK ?_ ?_<;>intro h
    .simp at h;omega
    clear h;(try simp only[aC]);refine pt ?_;refine aA ?_;exact⟨fU B<|hU q,k,A,u,p,a,aH ncM⟩
 .rintro S H1 ⟨B,k,A,u,p,a,z,rfl⟩
  have b0:(sel (isR (plc g w.length) er lam) w.length).length<=w.length:=iK _ _;refine aA ?_;refine aL ?_;refine⟨?_,B,k,A,I.keep B p,u,a⟩;have e:(((sel (isR (plc g w.length) er lam) w.length).length:Int)=(lam.length:Int)-1)↔((sel (isR (plc g w.length) er lam) w.length).length=lam.length-1):=byO;simp only[aR,e]
end
section
variable {f:FD}[OkC f]{lo:Nat}{H:Heap}{g:El f}{d be bl r b bw bE s:Nat}{w:List (El f)}{er:Nat->Bool}{vv vs vl vp:Value}
def qE(i:Nat):Value:=i
theorem Dc.word'{H':Heap}{w':List<|El f}(h:Dc H g d be bl r b bw bE s w er vv vs vl vp)(e:Keep bw H H')(a:w'.length=w.length)(c:H'.get bw=some (elL w')):Dc H' g d be bl r b bw bE s w' er vv vs vl vp:=by have h1:=h.h1;have h2:=h.h2;have h3:=h.h3;have h4:=h.h4;exact⟨by grind[Keep.get,box],h.ar.keep e byO byO,c,by grind[Keep.get,eras],h1,h2,h3,h4⟩
noncomputable def fw(w:List<|El f)(P:XN)(E:Nat->El f)(j:Nat):List<|El f:=tab w.length λi=>if i ∈ P.take j then co w i-E i else co w i
def n9(w:List<|El f)(P:XN)(E:Nat->El f)(j:Nat):(fw w P E j).length=w.length:=aJ _ _
theorem uS(w:List<|El f)(P:XN)(E:Nat->El f):fw w P E 0=w:=by unfold fw;simp[J4]
theorem fF{P:XN}{j:Nat}(a:j<P.length)(i:Nat):i ∈ P.take (j+1)↔i ∈ P.take j\/i=P.getD j 0:=by grind[List.take_add_one]
theorem yA{P:XN}(c:P.Nodup){j:Nat}(a:j<P.length):P.getD j 0 ∉ P.take j:=by grind[List.getElem_of_mem,List.pairwise_iff_getElem]
def Ip{w:List<|El f}{P:XN}{E:Nat->El f}{j:Nat}(c:P.Nodup)(e:∀i ∈ P,i<w.length)(a:j<P.length):(fw w P E j).getD (P.getD j 0) 0=co w (P.getD j 0):=by
 grind[fw,fe,yA]
def wW{w:List<|El f}{P:XN}{E:Nat->El f}{j:Nat}(a:j<P.length):(fw w P E j).set (P.getD j 0) (co w (P.getD j 0)-E (P.getD j 0))=fw w P E (j+1):=by
 grind[fw,lq,fF]
theorem HI(N:Nat)(F:Ser<|El f)(a:∀i,N<=i->F i=0):PI (tab N F)=tab (N-1) (der F):=by unfold PI;rw[aJ,jZ a];rfl
open XSa
def Gl(N2:lo<=bw)(B:Gn (OkC.ok (f:=f)) g){P:XN}{lam:List<|El f}{Γ S:Ser<|El f}(W:Dc H g d be bl r b bw bE s w er vv vs vl vp)(h1:w.length<=f.q-1)(hr:r<=10000000)(B2:b<=10000000)
  (hv:SlE H vv<|tab r S) (hs:SlE H vs<|tab (s+1) Γ) (Q2:s<=100000) (S1:∀i,s+1<=i->Γ i=0) (O:SlE H vl lam) (G2:1<=lam.length) (K2:lam.length<=20000000) (hp:Sl qE H vp P) (F1:NewV (d+1) vp)
  (hP:P.Nodup) (U:∀i ∈ P,i<w.length) (C:cv Γ (co lam)=aY (P.map<|plc g w.length)) (r1:P.length=s+(lam.length-1)) :
  Ev cp lo 137 [.pointer<|some ⟨d,0,none⟩] H λv H'=>v=.bool true/\Keep bw H H'/\Dc H' g d be bl r b bw bE s (fw w P (ri (plc g w.length) b r S P) P.length) er vv vs vl vp:=by
 have W1:P.length<=s+(lam.length-1)/\s+(lam.length-1)<=P.length:=byO;clear r1;have c:=W.box;have hl:=Heap.get_lt c;have hq:=qle (f:=f);have k1:=W.h1;have k2:=W.h2;have k3:=W.h3;have k4:=W.h4;have p:=ec<|P.map<|plc g w.length;rw[ay₀]at p;obtain⟨u2,x2,rfl⟩:=hs.len;obtain⟨al,w2,rfl⟩:=O.len;obtain⟨ap,p1,rfl⟩:=hp.len;have hN:((tab (s+1) Γ).length:Int)+(lam.length:Int)-1=((P.length+1:Nat):Int):=Xc
 have K1:(tab (s+1) Γ).length=s+1:=aJ _ _;have m2:(tab (s+1) Γ).length<=s+1/\s+1<=(tab (s+1) Γ).length:=byO;clear K1;apply stG rfl rfl;unfold Mp;simp only[kB,aC];refine aA ?_;refine ay ?_;apply aB (uW byO B W.ar hs O byO byO (P.length+1) byO);rintro v H1 ⟨K,b1,z2,rfl,a⟩;rw[jZ S1,C]at a;have Y:=W.mono K;have c:=Y.box;have Y1:=K.1;clear hN;refine aA ?_;refine ay ?_;apply aB (uW byO B Y.ar (hv.mono K) (bO (sp:=none) a<|aJ _ _) Xc Xc r byO);rintro v H2 ⟨L,b2,A2,rfl,f2⟩;rw[jZ (F:=aY<|P.map<|plc g w.length) λi hi=>p i byO]at f2;have Z:=Y.mono L;have c:=Z.box;have Z1:=L.1;have a:=L.get a;rw[ag (G:=cv S<|aY<|P.map<|plc g w.length) λk D=>mN (λi hi=>by rw[dm,if_pos byO]) λ_ _=>rfl]at f2;refine aA ?_;refine ay ?_;refine aB (yz byO B Z.ar (bO (sp:=none) a<|aJ _ _) Xc Xc) ?_;rintro vd H3 ⟨q,c0,b0⟩;rw[HI _ _ λi hi=>p i byO,Nat.add_sub_cancel]at c0;have I:=Z.mono q;have c:=I.box;have a2:=q.1;have f2:=q.get f2;have u1:=bO (sp:=none) f2<|aJ _ _;have q:=(K.trans L).trans q;have A1:=hp.mono q;have h0:1<=P.length->∀x,hor (tab P.length<|der<|aY<|List.map (plc g w.length) P) x=pv (der<|aY<|List.map (plc g w.length) P) (P.length-1) x:=λh x=>BL _ _ h;have y2:(tab P.length<|der<|aY<|List.map (plc g w.length) P).length<=100000000:=Xc
 generalize tab P.length (der<|aY<|List.map (plc g w.length) P)=Ds at *;obtain⟨ad,o1,rfl⟩:=c0.len;have b0:=b0.mono (show d+1<=H2.length by omega);have N:=λi hi=>Up (b:=b) (r:=r) (S:=S) (mF B) (eg B) h1 hP U (i:=i) hi;generalize aY (P.map<|plc g w.length)=LP at *;generalize hE:ri (plc g w.length) b r S P=E at *;clear a f2 C hE;have q1:(tab r<|cv S LP).length=r:=aJ _ _;generalize tab r (cv S LP)=Q at *;have T1:Q.length<=r/\r<=Q.length:=byO;clear q1;refine aA ?_;refine aP (λj S H'=>Keep bw H3 H'/\Heap.get H' bw=some (elL<|fw w P E j)/\∃(z:Nat->Value),S=[.pointer<|some ⟨d,0,none⟩,.bool false,z 2,.slice (some ⟨b2,0,none⟩) r r,.slice ad Ds.length o1,z 5,z 6,z 7,z 8,z 9,z 10,z 11,.slice ap P.length p1,P.length,j,z 15,z 16,z 17,z 18,z 19,z 20,z 21,z 22,z 23,z 24,z 25,z 26,z 27,z 28,z 29,z 30,z 31,z 32,z 33,z 34,z 35,z 36,z 37,z 38,z 39]) P.length ?_ ?_ ?_ ?_
 .exact⟨hU<|Ext.refl _,by rw[uS];exact I.word,aH rfl⟩
 .rintro j S' H' hj ⟨D,a,z,rfl⟩
  exact⟨_,aM,Wc⟩
 .clear c
  rintro j S' H4 hj ⟨D,a,z,rfl⟩;have J:=I.word' D (n9 w P E j) a;have B1:=fp A1 F1 D byO;have Z0:=fp c0 b0 D byO;have y0:=fp u1 (NewV.mk (show d+1<=b2 by omega)) D byO;have c:=J.box;have L2:=D.len;obtain⟨xb,xo,V2,xc,xs,e,y,j0,T2⟩:=B1.els 0 byO;cases e;have l0:=j0 j hj;have hm:P.getD j 0 ∈ P:=by rw[au₀,bc₀ hj];exact List.getElem_mem hj
  have z1:=U _ hm;have S2:=Ip (w:=w) (E:=E) hP U hj;have m1:=wW (w:=w) (E:=E) hj;obtain⟨V,o0⟩:=N _ hm;have hD:=h0 byO<|inv<|plc g w.length<|P.getD j 0;have j1:=n9 w P E j;have o2:(fw w P E j).length<=w.length/\w.length<=(fw w P E j).length:=byO;clear j0 j1;generalize P.getD j 0=i at *;generalize fw w P E j=wj at *;unfold qE at l0;rw[<-hD]at V o0;clear hD N h0;have X0:((w.length-1-i:Nat):Int)*((b:Int)+(f.q:Nat)-2)=(((w.length-1-i)*(b+(f.q-1-1)):Nat):Int):=by
   rw[Int.natCast_mul];congr 1;omega
  have hM:(w.length-1-i)*(b+(f.q-1-1))<=1000000000000:=Nat.le_trans (Nat.mul_le_mul (show w.length-1-i<=4096 by omega) (show b+(f.q-1-1)<=20000000 by omega)) byO;have F2:w.length-1-i<=4096:=byO;have G1:=AM B h1 z1;have g1:((f.q:Int)-1-((w.length-1-i:Nat):Int))=((f.q-1-(w.length-1-i):Nat):Int):=byO;have Y0:f.q-1-(w.length-1-i)<=1000000000000:=byO;have e0:wj.length-1-i=w.length-1-i:=byO;generalize (w.length-1-i)*(b+(f.q-1-1))=M at *;generalize f.q-1-(w.length-1-i)=R at *;generalize plc g w.length i=X at *;generalize w.length-1-i=k at *;refine aA ?_;refine ay ?_;refine aS (yF J byO i byO) ?_;rintro v H5 ⟨rfl,rfl⟩;rw[e0];refine bV ?_;refine aB (uU B J.ar R Y0) ?_;rintro v H5 ⟨n,rfl⟩;rw[G1];have a0:=J.mono n;have a:=n.get a;have y:=n.get y;have c:=n.get c;have a1:=Z0.mono n;have z0:=y0.mono n;refine aA ?_;refine ay ?_;refine aS (yF a0 byO i byO) ?_;rintro v H6 ⟨rfl,rfl⟩;rw[e0];refine bV ?_;refine aB (uU B a0.ar M hM) ?_;rintro v H6 ⟨o,rfl⟩;have r0:=a0.mono o;have a:=o.get a;have y:=o.get y;have c:=o.get c;have e1:=a1.mono o;have H0:=z0.mono o;have M2:=n.1;have e2:=o.1;clear g1 X0 e0;refine aA ?_;refine ay ?_;refine aS (By byO B r0.ar e1 byO<|inv X) ?_;rintro v H7 ⟨t,rfl⟩;have s0:=r0.mono t;have a:=t.get a;have y:=t.get y;have c:=t.get c;have S0:=H0.mono t;have g2:=t.1;refine bV ?_;refine aB (mulR B s0.ar (pw g M)<|hor Ds<|inv X) ?_;rintro v H8 ⟨u,rfl⟩;have w0:=s0.mono u;have a:=u.get a;have y:=u.get y;have c:=u.get c;have T0:=S0.mono u;have h2:=u.1;have C2:=gh V;refine aA ?_;refine aK ?_ ?_<;>intro h
  .exfalso;simp at h;omega
  clear h;refine bV ?_;refine aS (By byO B w0.ar T0 byO<|inv X) ?_;rintro v H9 ⟨A,rfl⟩;have x0:=w0.mono A;have a:=A.get a;have y:=A.get y;have c:=A.get c;have j2:=A.1;refine bV ?_;refine aS (SL B x0.ar (hor Q<|inv X) (pw g M*hor Ds (inv X)) V) ?_;rintro v q2 ⟨l,rfl⟩;rw[o0];have q0:=x0.mono l;have a:=l.get a;have y:=l.get y;have c:=l.get c;have w1:=l.1;refine bV ?_;refine aS (addR (co w i)<|-E i) ?_;rintro v r2 ⟨m,rfl⟩;have X1:=q0.mono m;have a:=m.get a;have y:=m.get y;have c:=m.get c;have x1:=m.1;have p2:wj.set i (co w i+-E i)=fw w P E (j+1):=m1;have y1:=Heap.get_lt a;clear m1;refine aA ?_;have L1:=((((((n.trans o).trans t).trans u).trans A).trans l).trans m);refine⟨fU D<|c9 L1 _ _,?_,aH ncM⟩;rw[aE y1]
 .rintro S' H4 ⟨D,a,z,rfl⟩
  refine aA ?_;refine aL ?_;exact⟨rfl,fU (hU q) D,I.word' D (n9 _ _ _ _) a⟩
end
section
variable {f:FD}[OkC f]{lo:Nat}{H:Heap}{g:El f}{d be bl r b bw bE s:Nat}{w:List (El f)}{er:Nat->Bool}{vv vs vl vp:Value}
def Low(m:Nat)(H H':Heap):Prop:=H.length<=H'.length/\∀i,i<m->i<H.length->H'.get i=H.get i
theorem Low.trans{m:Nat}{A B C:Heap}(h:Low m A B)(k:Low m B C):Low m A C:=⟨Nat.le_trans h.1 k.1,λi a c=>(k.2 i a<|bd₀ c h.1).trans<|h.2 i a c⟩
theorem Low.keep{m b:Nat}{A B:Heap}(h:Keep b A B)(c:m<=b):Low m A B:=⟨h.len,λi e a=>h.eq i a byO⟩
theorem Low.ext{m:Nat}{A B:Heap}(h:Ext A B):Low m A B:=⟨h.1,λi _ a=>h.2 i a⟩
theorem Low.toExt{m:Nat}{A B C:Heap}(h:Ext A B)(k:Low m B C)(c:A.length<=m):Ext A C:=⟨Nat.le_trans h.1 k.1,λi a=>(k.2 i byO<|bd₀ a h.1).trans<|h.2 i a⟩
theorem wV(g:El f)(r b:Nat)(w:List<|El f)(er:Nat->Bool):fw w (sel (bz (plc g w.length) er<|ck (plc g w.length) er w.length r<|syS g r b w) w.length) (ri (plc g w.length) b r (syS g r b w)<|sel (bz (plc g w.length) er<|ck (plc g w.length) er w.length r<|syS g r b w) w.length) (sel (bz (plc g w.length) er<|ck (plc g w.length) er w.length r<|syS g r b w) w.length).length=gO g r b w er:=by
 grind[fw,gO,ag,fI]
def nl:Value:=.slice none 0 0
def Fj(H:Heap)(g:El f)(d be bl r b bw bE:Nat)(w:List<|El f)(er:Nat->Bool):Nat->Prop
 | 0=>Dc H g d be bl r b bw bE (sC er w.length) w er nl nl nl nl
 | 1=>sC er w.length<=r/\∃vv,Dc H g d be bl r b bw bE (sC er w.length) w er vv nl nl nl/\SlE H vv (ft g r b w)/\NewV (d+1) vv
 | 2=>sC er w.length<=r/\∃vv vs,Dc H g d be bl r b bw bE (sC er w.length) w er vv vs nl nl/\SlE H vv (ft g r b w)/\NewV (d+1) vv/\SlE H vs (tab (sC er w.length+1)<|gam (plc g w.length) er w.length)/\NewV (d+1) vs
 | 3=>sC er w.length<=r/\2*((ck (plc g w.length) er w.length r<|syS g r b w).length-1)+sC er w.length<=r/\∃vv vs vl,Dc H g d be bl r b bw bE (sC er w.length) w er vv vs vl nl/\SlE H vv (ft g r b w)/\NewV (d+1) vv/\SlE H vs (tab (sC er w.length+1)<|gam (plc g w.length) er w.length)/\NewV (d+1) vs/\SlE H vl (ck (plc g w.length) er w.length r<|syS g r b w)/\NewV (d+1) vl
 | 4=>sC er w.length<=r/\2*((ck (plc g w.length) er w.length r<|syS g r b w).length-1)+sC er w.length<=r/\(sel (isR (plc g w.length) er<|ck (plc g w.length) er w.length r<|syS g r b w) w.length).length=(ck (plc g w.length) er w.length r<|syS g r b w).length-1/\∃vv vs vl vp,Dc H g d be bl r b bw bE (sC er w.length) w er vv vs vl vp/\SlE H vv (ft g r b w)/\NewV (d+1) vv/\SlE H vs (tab (sC er w.length+1)<|gam (plc g w.length) er w.length)/\NewV (d+1) vs/\SlE H vl (ck (plc g w.length) er w.length r<|syS g r b w)/\NewV (d+1) vl/\Sl qE H vp (sel (bz (plc g w.length) er<|ck (plc g w.length) er w.length r<|syS g r b w) w.length)/\NewV (d+1) vp
 | 5=>sC er w.length<=r/\2*((ck (plc g w.length) er w.length r<|syS g r b w).length-1)+sC er w.length<=r/\(sel (isR (plc g w.length) er<|ck (plc g w.length) er w.length r<|syS g r b w) w.length).length=(ck (plc g w.length) er w.length r<|syS g r b w).length-1/\∃vv vs vl vp,Dc H g d be bl r b bw bE (sC er w.length) (gO g r b w er) er vv vs vl vp
 | _=>DecOK g r b w er/\∃vv vs vl vp,Dc H g d be bl r b bw bE (sC er w.length) (gO g r b w er) er vv vs vl vp
def xj(X:Nat->El f)(er:Nat->Bool)(n r:Nat)(S:Ser<|El f):1<=(ck X er n r S).length:=by grind[xh,mM,jq]
def OO(k:Nat):FuncId:=match k with|0=>133|1=>134|2=>135|3=>136|4=>137|_=>138
def TO(M:lo<=bw)(B:Gn (OkC.ok (f:=f)) g)(F:w.length<=f.q-1)(hr:r<=10000000)(hb:b<=10000000){k:Nat}(c:k<6)(h:Fj H g d be bl r b bw bE w er k) :
  Ev cp lo (OO k) [.pointer<|some ⟨d,0,none⟩] H λv H'=>∃t,v=.bool t/\(∀i,i<H.length->i≠d->i≠bw->H'.get i=H.get i)/\H.length<=H'.length/\(t=true->Fj H' g d be bl r b bw bE w er (k+1))/\(t=false->¬ DecOK g r b w er):=by
 have hq:=qle (f:=f);have Z:=iK er w.length;have W:=iR (mF B) (eg B) F
 match k,c with
 | 0,_=>
  have a:Dc H g d be bl r b bw bE (sC er w.length) w er nl nl nl nl:=h;have K:=Heap.get_lt a.box;have I:=a.h3;have J:=a.h4;refine(I7 byO B a byO byO byO).mono ?_;rintro v H' ⟨rfl,c,V,e,z,y⟩;refine⟨_,rfl,λi p j _=>c.eq i p j,c.len,λl=>⟨Yg,V,e,z,y.mono byO⟩,λl q=>?_⟩;have:=q.few;simp at l;omega
 | 1,_=>
  have⟨A,vv,a,z,y⟩:=h;have K:=Heap.get_lt a.box;have I:=a.h3;have J:=a.h4;refine(PM byO B a byO).mono ?_;rintro v H' ⟨rfl,c,U,e,o,m⟩;exact⟨_,rfl,λi p j _=>c.eq i p j,c.len,λ_=>⟨A,vv,U,e,fp z y c byO,y,o,m.mono byO⟩,λl=>by cases l⟩
 | 2,_=>
  have⟨A,vv,vs,a,z,y,o,m⟩:=h;have K:=Heap.get_lt a.box;have I:=a.h3;have J:=a.h4;refine(LA byO B a byO byO A z o).mono ?_;rintro v H' ⟨rfl,c,Q,e,x,u⟩;refine⟨_,rfl,λi p j _=>c.eq i p j,c.len,λl=>⟨A,Yg,vv,vs,Q,e,fp z y c byO,y,fp o m c byO,m,x,u.mono byO⟩,λl q=>?_⟩;have:=q.cap;simp at l;omega
 | 3,_=>
  have⟨A,G,vv,vs,vl,a,z,y,o,m,x,u⟩:=h;have K:=Heap.get_lt a.box;have I:=a.h3;have J:=a.h4;have D:=xj (plc g w.length) er w.length r<|syS g r b w;refine(MH byO B a F x u byO D).mono ?_;rintro v H' ⟨rfl,c,R,bp,e,Y,C⟩;refine⟨_,rfl,λi p j _=>c.eq i p j,c.len,λl=>⟨A,G,Yg,vv,vs,vl,R,e,fp z y c byO,y,fp o m c byO,m,fp x u c byO,u,Sl.ofOwn C,NewV.own C byO⟩,λl q=>?_⟩;have:=q.num;simp at l;omega
 | 4,_=>
  have⟨A,G,c3,vv,vs,vl,vp,a,z,y,o,m,x,u,O,N⟩:=h;have K:=Heap.get_lt a.box;have I:=a.h3;have J:=a.h4;have D:=xj (plc g w.length) er w.length r<|syS g r b w;have L:=GL (X:=plc g w.length) (n:=w.length) (er:=er) (lam:=ck (plc g w.length) er w.length r<|syS g r b w);refine(Gl (S:=syS g r b w) (Γ:=gam (plc g w.length) er w.length) M B a F byO byO (by unfold ft at z;unfold syS;rw[show tab r (co<|tab r λi=>dK w<|pw g<|b+i)=tab r (λi=>dK w<|pw g<|b+i) from ag λi p=>by rw[dm,if_pos p]];exact z) o byO (sF _ _ _) x D byO O N (kz _ _) (λi p=>(fI.1 p).1) (Dy W c3) (by rw[L,c3];rfl)).mono ?_;rintro v H' ⟨rfl,c,e⟩;rw[wV]at e;exact⟨_,rfl,λi p _ j=>c.eq i p j,c.len,λ_=>⟨A,G,c3,_,_,_,_,e⟩,λl=>by cases l⟩
 | 5,_=>
  have⟨A,G,c3,vv,vs,vl,vp,a⟩:=h;have K:=Heap.get_lt a.box;have I:=a.h3;have J:=a.h4;refine(Oj byO B a (by rw[ki];omega) byO byO).mono ?_;rintro v H' ⟨P,t,rfl,l⟩;refine⟨_,rfl,λi p _ _=>P.2 i p,P.1,λh=>⟨⟨A,G,c3,l.1 h⟩,vv,vs,vl,vp,a.mono P⟩,λh q=>?_⟩;have:=l.2 q.cw;rw[h]at this;cases this
open XSa
def Qs(C:lo<=bw)(V:Gn (OkC.ok (f:=f)) g)(I:w.length<=f.q-1)(W:r<=10000000)(U:b<=10000000)(q:Dc H g d be bl r b bw bE (sC er w.length) w er nl nl nl nl) :
  Ev cp lo 94 [.pointer<|some ⟨d,0,none⟩] H λv H'=>∃t,v=.bool t/\Low bw H H'/\(t=true↔DecOK g r b w er)/\(t=true->∃vv vs vl vp,Dc H' g d be bl r b bw bE (sC er w.length) (gO g r b w er) er vv vs vl vp):=by
 have N:=Heap.get_lt q.box;have X:=q.h3;have Y:=q.h4;apply stG rfl rfl;unfold Rz;simp only[kB,aC];refine aA ?_;generalize c:[Value.func (Fn.func 133) #[Value.pointer<|some ⟨d,0,none⟩] #[],Value.func (Fn.func 134) #[Value.pointer<|some ⟨d,0,none⟩] #[],Value.func (Fn.func 135) #[Value.pointer<|some ⟨d,0,none⟩] #[],Value.func (Fn.func 136) #[Value.pointer<|some ⟨d,0,none⟩] #[],Value.func (Fn.func 137) #[Value.pointer<|some ⟨d,0,none⟩] #[],Value.func (Fn.func 138) #[Value.pointer<|some ⟨d,0,none⟩] #[]]=j;have m:j.length=6:=by rw[<-c];rfl
 have M:j.length<=6/\6<=j.length:=byO;have L:∀k,k<6->j[k]?=some (.func (.func<|OO k) #[.pointer<|some ⟨d,0,none⟩] #[]):=by
  intro k n;rw[<-c]
  match k,n with
  | 0,_=>rfl
  | 1,_=>rfl
  | 2,_=>rfl
  | 3,_=>rfl
  | 4,_=>rfl
  | 5,_=>rfl
 clear c m;generalize A:H++_=G at *;have J:Heap.get G H.length=some j:=by rw[<-A];exact aI
 have e:Ext H G:=by rw[<-A];exact Ext.app _ _
 clear A;apply aP (λk S H'=>Low bw H H'/\Heap.get H' H.length=some j/\Fj H' g d be bl r b bw bE w er k/\∃(z:Nat->Value),S=[.pointer<|some ⟨d,0,none⟩,.bool false,z 2,z 3,z 4,.slice (some ⟨H.length,0,none⟩) 6 6,(6:Int),k,z 8]) 6
 .exact⟨Low.ext e,J,q.mono e,aH rfl⟩
 .rintro k S H' n ⟨u,l,a,z,rfl⟩
  exact⟨_,aM,Wr⟩
 .clear J e
  rintro k S O n ⟨u,l,a,z,rfl⟩;have R:=L k n;clear L;refine aA ?_;refine ay ?_;apply aB (TO C V I W U n a);rintro v P ⟨t,rfl,K,Q,x,y⟩;have p:Low bw H P:=u.trans ⟨Q,λi Z N=>K i N byO byO⟩;have l:=(K H.length (Heap.get_lt l) byO byO).trans l;cases t with
  | false=>
   have D:=y rfl;(try simp only[aC]);refine aK ?_ ?_<;>intro h
   case refine_2=>cases h
   clear h;refine aA ?_;refine aL ?_;exact⟨false,rfl,p,by simp[D],λh=>by cases h⟩
  | true=>
   have o:=x rfl;(try simp[aC]);refine pt ?_;refine aA ?_;exact⟨p,l,o,aH ncM⟩
 .rintro S O ⟨u,l,a,z,rfl⟩
  obtain⟨F,B⟩:=a;refine aA ?_;refine aL ?_;exact⟨true,rfl,u,by simp[F],λ_=>B⟩
end
def mO(k:Int):Value:=.tuple #[.agg #[.slice none 0 0,.slice none 0 0],k]
section
variable {lo:Nat}{H:Heap}{ch sz po r b:Int}{v ve:Value}{l e:XI}
open XSa
def HD(o:lo<=H.length)(m:po<=9223372036854775807)(j:SlI H v l)(f:l.length<=9223372036854775807)(g:¬ (yh ch sz po r b/\inF sz l=true)):Ev cp lo 49 [cdI ch sz po r b,v,ve] H λv H'=>Ext H H'/\v=mO 1:=by
 have d:=j;obtain⟨q,c,rfl⟩:=j.len;unfold cdI;apply stG rfl rfl;unfold O4;simp[kB,aC];refine aA ?_;refine ay ?_;apply aB (D2 (ch:=ch) (sz:=sz) (po:=po) (r:=r) (b:=b) m (d.mono<|Ext.app _ _) f);rintro v i ⟨a,t,rfl,p⟩;have s:i.get H.length=some _:=a.get aM;have k:i.get (H.length+1)=some _:=a.get aM;have a:=a.of_app;have n:=Heap.get_lt k;cases t with
 | true=>exact absurd (p.1 rfl) g
 | false=>
  (try simp[aC]);refine aK ?_ ?_<;>intro h
  case refine_2=>cases h
  refine aA ?_;refine aL ?_;exact⟨a.set byO,rfl⟩
end
open XSa
def erI(e:XI)(i:Nat):Bool:=decide<|(i:Int) ∈ e
def inR(n:Nat)(e:XI):Prop:=∀x ∈ e,0<=x/\x<n
def C5{n k:Nat}(er:Nat->Bool)(d:k<n):(erL n er).set k (true)=erL n λj=>er j || decide (j=k):=by
 apply List.ext_getElem (by simp[erL]);grind[erL]
theorem C6{er:Nat->Bool}{k:Nat}(h:er k=true):(λj=>er j || decide (j=k))=er:=by
 grind[decide_eq_false]
def JM{er:Nat->Bool}{k:Nat}(h:er k=false):∀n,k<n->sC (λj=>er j || decide (j=k)) n=sC er n+1:=by
 have b:∀n,n<=k->sC (λj=>er j || decide (j=k)) n=sC er n:=by
  intro n
  induction n with
  | zero=>intro _;rfl
  | succ n a=>grind[kJ]
 intro n
 induction n with
 | zero=>omega
 | succ n a=>
  grind[kJ]
def zG{e:XI}{i k:Nat}(b:i<e.length)(d:e.getD i 0=(k:Int)):erI (e.take<|i+1)=λj=>erI (e.take i) j || decide (j=k):=by
 grind[List.take_add_one,erI]
theorem Bl(e:XI):∀n,sC (erI<|e.take 0) n=0
 | 0=>rfl
 | n+1=>by rw[kJ,Bl e n];simp[erI]
section
variable {f:FD}[OkC f]
def HE{lo:Nat}{H:Heap}{g:El f}{v ve:Value}{w:List<|El f}{e:XI}{r b:Nat}(X2:lo<=H.length)(hg:Gn (OkC.ok (f:=f)) g)(hc:CdOK f r b)(hw:SlE H v w)(a3:w.length<=10000000)(he:SlI H ve e)(N2:e.length<=10000000) :
  Ev cp lo 49 [cdV f r b,v,ve] H (λv H'=>Ext H H'/\(¬ inR w.length e->v=mO 1)/\(inR w.length e->¬ (r<w.length/\w.length<f.q)->v=mO 7)/\(inR w.length e->r<w.length->w.length<f.q->¬ DecOK g r b w (erI e)->v=mO 17)
   /\ (inR w.length e->r<w.length->w.length<f.q->DecOK g r b w (erI e)->∃vw vc,v=.tuple #[.agg #[vw,vc],(0:Int)]/\SlE H' vw (gO g r b w<|erI e)/\Sl qE H' vc (sel (λi=>decide<|co (gO g r b w<|erI e) i≠co w i) w.length)/\NewV H.length vw/\NewV H.length vc)):=by
 have h2:=qle (f:=f);have j1:=hw;have e1:=he;have g2:=DI hc;obtain⟨c1,c2,c3⟩:=hc;obtain⟨aw,cw,rfl⟩:=hw.len;obtain⟨ae,ce,rfl⟩:=he.len;unfold cdV;refine stG rfl rfl ?_;unfold O4;simp only[kB,aC];refine aA ?_;refine ay ?_;refine aB (D2 (ch:=FD.ch f) (sz:=f.q) (po:=f.poly) (r:=r) (b:=b) (sI<|OkC.ok (f:=f)) (sO<|j1.mono<|Ext.app _ _) (by rw[pg];omega)) ?_;rintro v H1 ⟨V,t,rfl,ht⟩;have g0:H1.get H.length=some _:=V.get aM;have O:H1.get (H.length+1)=some _:=V.get aM;have V:=V.of_app;have p2:t=true:=ht.2 ⟨g2,zX w⟩;subst p2;have Q2:=Heap.get_lt O;(try simp only[aC]);refine pt ?_;clear ht;refine aA ?_;refine ij (λS H'=>H1=H'/\inR w.length e/\∃i z0 z5 z6 z7 z8 z9 a d j l o p q s u A e0 h0 j0 B C D F I J,S=[z0,.slice aw w.length cw,.slice ae e.length ce,.pointer<|some ⟨H.length,0,none⟩,.pointer<|some ⟨H.length+1,0,none⟩,z5,z6,z7,z8,z9,a,d,.slice ae e.length ce,.int .i64 e.length,.int .i64 i,j,l,o,p,q,s,u,A,e0,h0,j0,B,C,D,F,I,J]) ?_ ?_
 .refine aP (λi S H'=>H1=H'/\inR w.length (e.take i)/\∃z0 z5 z6 z7 z8 z9 a d j l o p q s u A e0 h0 j0 B C D F I J,S=[z0,.slice aw w.length cw,.slice ae e.length ce,.pointer<|some ⟨H.length,0,none⟩,.pointer<|some ⟨H.length+1,0,none⟩,z5,z6,z7,z8,z9,a,d,.slice ae e.length ce,.int .i64 e.length,.int .i64 i,j,l,o,p,q,s,u,A,e0,h0,j0,B,C,D,F,I,J]) e.length ?_ ?_ ?_ ?_
  .exact⟨rfl,by simp[inR],_,_,_,_,_,_,_,_,_,_,_,_,_,_,_,_,_,_,_,_,_,_,_,_,_,rfl⟩
  .rintro i S H' R ⟨rfl,-,z0,z5,z6,z7,z8,z9,a,d,j,l,o,p,q,s,u,A,e0,h0,j0,B,C,D,F,I,J,rfl⟩
   exact⟨_,aM,Wc⟩
  .rintro i S H' R ⟨rfl,N,z0,z5,z6,z7,z8,z9,a,d,j,l,o,p,q,s,u,A,e0,h0,j0,B,C,D,F,I,J,rfl⟩
   obtain⟨xb,xo,X0,xc,xs,ee,gx,P,b3⟩:=(e1.mono V).els 0 byO;cases ee;have Q:=P i R;have hm:e.getD i 0 ∈ e:=by rw[au₀,bc₀ R];exact List.getElem_mem R
   have o2:e.take (i+1)=e.take i++[e.getD i 0]:=by rw[List.take_add_one,bc₀ R,au₀,bc₀ R];rfl
   clear P;generalize e.getD i 0=x at *;refine aA ?_;refine aK ?_ ?_<;>intro h
   .have o0:¬ inR w.length e:=λh3=>by have:=h3 _ hm;simp at h;omega
    clear h;refine aA ?_;refine aL ?_;exact⟨V.set byO,λ_=>rfl,λh=>absurd h o0,λh=>absurd h o0,λh=>absurd h o0⟩
   .have hx:0<=x/\x<w.length:=Ws
    clear h;refine aA ?_;refine⟨We,?_,_,_,_,_,_,_,_,_,_,_,_,_,_,_,_,_,_,_,_,_,_,_,_,_,_,ncM⟩;intro y hy;rw[o2]at hy;rcases List.mem_append.1 hy with h|h
    .exact N y h
    .rw[List.mem_singleton.1 h];exact hx
  .rintro S H' ⟨rfl,N,z0,z5,z6,z7,z8,z9,a,d,j,l,o,p,q,s,u,A,e0,h0,j0,B,C,D,F,I,J,rfl⟩
   rw[List.take_length]at N;exact⟨rfl,N,e.length,_,_,_,_,_,_,_,_,_,_,_,_,_,_,_,_,_,_,_,_,_,_,_,_,_,rfl⟩
 rintro S H' ⟨rfl,N,i0,z0,z5,z6,z7,z8,z9,a,d,j,l,o,p,q,s,u,A,e0,h0,j0,B,C,D,F,I,J,rfl⟩;refine aA ?_;refine ay ?_;refine aB (VJ (ch:=FD.ch f) (sz:=f.q) (po:=f.poly) (r:=r) (b:=b) (n:=w.length)) ?_;rintro v H2 ⟨X,rfl⟩;have g0:=X.get g0;have O:=X.get O;have X:=V.trans X;have S2:=X.1;(try simp only[aC]);refine aK ?_ ?_<;>intro h
 .have o0:¬ (r<w.length/\w.length<f.q):=by
   intro hh;simp at h;omega
  clear h;have a2:=Heap.get_lt O;refine aA ?_;refine aL ?_;exact⟨X.set byO,λh=>absurd N h,λ_ _=>rfl,λ_ h1 h2=>absurd ⟨h1,h2⟩ o0,λ_ h1 h2=>absurd ⟨h1,h2⟩ o0⟩
 have U:r<w.length/\w.length<f.q:=Ws
 clear h;refine bV ?_;refine aS (En byO hg) ?_;rintro v K ⟨Y,be,bl,C2,b1,rfl,ha⟩;have g0:=Y.get g0;have O:=Y.get O;have a2:=Y.1;have Y:=X.trans Y;have q2:=j1.mono Y;have W1:=g0;have a1:=O;rcases q2 with ⟨-,rfl⟩|⟨xb,xo,X0,xc,xs,ee,gx,z1,G2,K2,L2⟩
 .simp at U
 cases ee;unfold arV;refine bV ?_;refine dD (c:=elL w) (Own.nil (b:=K.length) byO) byO byO byO Wr gx byO (by rw[Nat.mul_one];exact z1) (xO w) ?_;rintro v4 H4 s0 Y1 b2;have H0:Ext K H4:=Y1.ext (Ext.refl _)<|Nat.le_refl _;rw[List.nil_append]at s0;obtain⟨-,⟨-,h⟩|⟨m,hm,L1,rfl,gw⟩⟩:=s0
 .have:w.length=0:=by rw[<-cX w,h];rfl
  omega
 have e2:m=w.length:=by rw[cX]at L1;omega
 subst e2;have g0:=H0.get g0;have O:=H0.get O;clear L1;refine aA ?_;refine rp aM aM (.inl rfl) ?_;have b1:im (List.replicate w.length false)=erL w.length (erI<|e.take 0):=by
  simp[im,erL,erI,List.map_const']
 rw[b1];generalize hG:H4++_=G at *;have Z:Ext H4 G:=Xh
 have ge:G.get (K.length+1)=some (erL w.length<|erI<|e.take 0):=by rw[<-hG,<-b2];exact aI
 have gd:G.get (K.length+1+1)=some (dcC f be bl r b w.length K.length (K.length+1) (sC (erI<|e.take 0) w.length) nl nl nl nl):=by
  rw[<-hG,Bl,show K.length+1+1=H4.length+1 by omega,bI];rfl
 clear hG b1;have p1:=(Y.trans H0).trans Z;have B2:=(ha.mono H0).mono Z;have w1:=Z.get gw;have g0:=Z.get g0;have O:=Z.get O;have x1:=ha.lt;have M2:=e1.mono p1;have W2:=Z.1;refine aA ?_;refine ij (λS H'=>Low (K.length+1) G H'/\Heap.get H' (K.length+1)=some (erL w.length<|erI e)/\Heap.get H' (K.length+1+1)=some (dcC f be bl r b w.length K.length (K.length+1) (sC (erI e) w.length) nl nl nl nl)/\∃i z0 z2 z5 z6 z8 z9 a d a0 b0 c0 j l o p q s u A B C D F I J,S=[z0,.slice (some ⟨xb,xo,X0⟩) w.length cw,z2,.pointer<|some ⟨H.length,0,none⟩,.pointer<|some ⟨H.length+1,0,none⟩,z5,z6,.pointer<|some ⟨K.length+1+1,0,none⟩,z8,z9,a,d,a0,b0,c0,j,l,o,p,q,s,u,A,.slice ae e.length ce,.int .i64 e.length,.int .i64 i,B,C,D,F,I,J]) ?_ ?_
 .refine aP (λi S H'=>Low (K.length+1) G H'/\Heap.get H' (K.length+1)=some (erL w.length<|erI<|e.take i)/\Heap.get H' (K.length+1+1)=some (dcC f be bl r b w.length K.length (K.length+1) (sC (erI<|e.take i) w.length) nl nl nl nl)/\∃z0 z2 z5 z6 z8 z9 a d a0 b0 c0 j l o p q s u A B C D F I J,S=[z0,.slice (some ⟨xb,xo,X0⟩) w.length cw,z2,.pointer<|some ⟨H.length,0,none⟩,.pointer<|some ⟨H.length+1,0,none⟩,z5,z6,.pointer<|some ⟨K.length+1+1,0,none⟩,z8,z9,a,d,a0,b0,c0,j,l,o,p,q,s,u,A,.slice ae e.length ce,.int .i64 e.length,.int .i64 i,B,C,D,F,I,J]) e.length ?_ ?_ ?_ ?_
  .exact⟨Low.ext<|Ext.refl _,ge,gd,_,_,_,_,_,_,_,_,_,_,_,_,_,_,_,_,_,_,_,_,_,_,_,_,_,rfl⟩
  .rintro i S H' R ⟨-,-,-,z0,z2,z5,z6,z8,z9,a,d,a0,b0,c0,j,l,o,p,q,s,u,A,B,C,D,F,I,J,rfl⟩
   exact⟨_,aM,Wc⟩
  .clear gd ge
   rintro i S H6 R ⟨k1,k2,k3,z0,z2,z5,z6,z8,z9,a,d,a0,b0,c0,j,l,o,p,q,s,u,A,B,C,D,F,I,J,rfl⟩;have m1:Ext H H6:=Low.toExt p1 k1 byO;obtain⟨yb,yo,w2,yc,ys,ee,gy,P,u2⟩:=(e1.mono m1).els 0 byO;cases ee;have Q:=P i R;have hm:e.getD i 0 ∈ e:=by rw[au₀,bc₀ R];exact List.getElem_mem R
   have r2:=N _ hm;obtain⟨k,hk⟩:∃k:Nat,e.getD i 0=(k:Int):=⟨(e.getD i 0).toNat,byO⟩;have y0:=zG R hk;have F1:k<w.length:=byO;rw[hk]at Q;clear P hk r2 hm;have x0:=iK (erI<|e.take i) w.length;have T2:=Heap.get_lt k3;refine aA ?_;cases T0:erI (e.take i) k with
   | true=>
    rw[C6 T0]at y0;rw[y0];clear y0;refine pt ?_;clear T0;refine aA ?_;exact⟨k1,k2,k3,_,_,_,_,_,_,_,_,_,_,_,_,_,_,_,_,_,_,_,_,_,_,_,_,_,ncM⟩
   | false=>
    have y1:=JM T0 w.length F1;have j2:=C5 (erI<|e.take i) F1;rw[<-y0]at y1 j2;clear y0;refine aK ?_ ?_<;>intro h
    case refine_2=>cases h
    clear h T0;generalize Y2:sC (erI<|e.take<|i+1) w.length=q1 at *;subst y1;generalize sC (erI<|e.take i) w.length=q0 at *;refine aA ?_;refine⟨k1.trans<|Low.trans (Low.keep (c9 (Ext.refl _) _ _)<|Nat.le_refl _)<|Low.keep (c9 (Ext.refl _) _ _) byO,?_,?_,_,_,_,_,_,_,_,_,_,_,_,_,_,_,_,_,_,_,_,_,_,_,_,_,_,ncM⟩
    .rw[aQ byO,aE byO]
    .rw[aE Wr];rfl
  .rintro S H' ⟨k1,k2,k3,z0,z2,z5,z6,z8,z9,a,d,a0,b0,c0,j,l,o,p,q,s,u,A,B,C,D,F,I,J,rfl⟩
   rw[List.take_length]at k2 k3;exact⟨k1,k2,k3,e.length,_,_,_,_,_,_,_,_,_,_,_,_,_,_,_,_,_,_,_,_,_,_,_,_,_,rfl⟩
 clear gd ge;rintro S H6 ⟨k1,k2,k3,i6,z0,z2,z5,z6,z8,z9,a,d,a0,b0,c0,j,l,o,p,q,s,u,A,B,C,D,F,I,J,rfl⟩;have Z0:Ext K H6:=Low.toExt (H0.trans Z) k1 byO;have X1:Dc H6 g (K.length+1+1) be bl r b K.length (K.length+1) (sC (erI e) w.length) w (erI e) nl nl nl nl:=⟨k3,ha.mono Z0,(k1.2 _ byO byO).trans w1,k2,x1.1,x1.2,byO,byO⟩;have m1:Ext H H6:=Low.toExt p1 k1 byO;refine aA ?_;refine ay ?_;refine aB (Qs byO hg byO byO byO X1) ?_;rintro v H7 ⟨t,rfl,Y0,ht,m2⟩;have o1:Ext H H7:=Low.toExt m1 Y0 byO;have l0:Ext K H7:=Low.toExt Z0 Y0 byO;have u1:=a1;have O:=l0.get a1;have G1:=l0.1;clear W1 a1 g0 k2 k3 gw w1 gx z1;cases t with
 | false=>
  (try simp only[aC]);refine aK ?_ ?_<;>intro h
  case refine_2=>cases h
  clear h;have K1:=Heap.get_lt O;refine aA ?_;refine aL ?_;exact⟨o1.set byO,λh=>absurd N h,λ_ h=>absurd U h,λ_ _ _ _=>rfl,λ_ _ _ h=>absurd (ht.2 h) Wc⟩
 | true=>
  obtain⟨vv,vs,vl,vp,A1⟩:=m2 rfl;have T1:=ht.1 rfl;have gd:=A1.box;have gw:=A1.word;have B1:=ki g r b w<|erI e;have x2:(gO g r b w<|erI e).length<=w.length/\w.length<=(gO g r b w<|erI e).length:=byO;rw[B1]at gd;clear B1;generalize gO g r b w (erI e)=W at *;(try simp only[aC]);refine pt ?_;refine aA ?_;refine aP (λi S H'=>Ext H7 H'/\∃vc bc,H7.length<=bc/\Own lo 1 H' vc bc (jy<|sel (λi=>decide<|co W i≠co w i) i)/\∃(z:Nat->Value),S=[z 0,.slice (some ⟨xb,xo,X0⟩) w.length cw,z 2,z 3,.pointer<|some ⟨H.length+1,0,none⟩,z 5,z 6,.pointer<|some ⟨K.length+1+1,0,none⟩,z 8,vc,z 10,z 11,z 12,z 13,z 14,z 15,z 16,z 17,z 18,z 19,z 20,z 21,z 22,z 23,z 24,z 25,z 26,.int .i64 w.length,.int .i64 i,z 29,z 30,z 31]) w.length ?_ ?_ ?_ ?_
  .exact⟨Ext.refl _,_,H7.length,Nat.le_refl _,Own.nil byO,aH rfl⟩
  .rintro i S H' R ⟨hx,vc,bc,S0,M,z,rfl⟩
   exact⟨_,aM,Wc⟩
  .rintro i S H8 R ⟨L,vc,bc,S0,M,z,rfl⟩
   obtain⟨yb,yo,w2,yc,ys,ee,gy,P,u2⟩:=eS (j1.mono<|o1.trans L) byO;cases ee;have Q:=P i R;have gd:=L.get gd;have gw:=L.get gw;have O:=L.get O;have r0:=dQ (λi=>decide<|co W i≠co w i) i;have Z2:(sel (λi=>decide<|co W i≠co w i) i).length<=i:=iK _ i;have K1:=L.1;have F2:W.getD i 0=co W i:=rfl;clear P;refine aA ?_;by_cases hz:co W i=co w i
   .rw[if_neg (by simp[hz]),List.append_nil]at r0
    rw[r0];clear r0;have r1:(co W i).val=(co w i).val:=by rw[hz]
    clear hz;refine aK ?_ ?_<;>intro h
    .simp at h
    clear h r1 Q;refine aA ?_;exact⟨L,vc,bc,S0,M,aH ncM⟩
   .rw[if_pos (by simp[hz])]at r0
    have x0:jy (sel (λi=>decide<|co W i≠co w i)<|i+1)=jy (sel (λi=>decide<|co W i≠co w i) i)++[.int .i64 i]:=by rw[r0];simp[jy]
    clear r0;have r1:(co W i).val≠(co w i).val:=λh=>hz<|El.ext h;clear hz;refine aK ?_ ?_<;>intro h
    case refine_2=>simp at h;omega
    clear h r1 Q;refine aA ?_;refine ay ?_;refine dD (c:=[.int .i64 i]) (M.mono<|Ext.app _ _) Wr byO byO XO aI Wc rfl rfl ?_;rintro v' H9 w0 Z1 V2;have hE:=Ext.app H8 [some [Value.int .i64 i]];simp only[as₀,ak₀,an₀]at w0;refine aA ?_;refine⟨Z1.ext (L.trans hE) byO,v',H8.length+(0+1),byO,?_,aH ncM⟩;rw[x0];exact w0
  .rintro S H8 ⟨L,vc,bc,S0,M,z,rfl⟩
   have gd:=L.get gd;have gw:=L.get gw;have O:=L.get O;have K1:=Heap.get_lt O;have x0:=Sl.ofOwn (enc:=qE) M;have S1:=NewV.own M S0;have A2:=l0.1;have G1:=Heap.get_lt<|l0.get u1;have y2:=Heap.get_lt u1;obtain⟨ac,nc,rfl⟩:=x0.len;refine aA ?_;refine aL ?_;refine⟨(o1.trans L).set byO,λh=>absurd N h,λ_ h=>absurd U h,λ_ _ _ h=>absurd T1 h,λ_ _ _ _=>⟨_,_,rfl,?_,?_,NewV.mk byO,NewV.mono S1 byO⟩⟩
   .exact bO (by rw[aQ byO];exact gw) byO
   .exact fp x0 S1 (c9 (Ext.refl _) _ _) G1
def rz{lo:Nat}{H:Heap}{g:El f}{v o:Value}{w:List<|El f}{e:XI}{r b:Nat}(m:lo<=H.length)(x:Gn (OkC.ok (f:=f)) g)(t:CdOK f r b)(y:SlE H v w)(n:w.length<=10000000)(u:SlI H o e)(l:e.length<=10000000) :
  Ev cp lo 49 [cdV f r b,v,o] H (λv H'=>Ext H H'/\(¬ inR w.length e->v=mO 1)/\(inR w.length e->¬ (r<w.length/\w.length<f.q)->v=mO 7)/\(inR w.length e->r<w.length->w.length<f.q->¬ DecOK g r b w (erI e)->v=mO 17)
   /\ (inR w.length e->r<w.length->w.length<f.q->DecOK g r b w (erI e)->∃k j,v=.tuple #[.agg #[k,j],(0:Int)]/\SlE H' k (gO g r b w<|erI e)/\Sl qE H' j (sel (λi=>decide<|co (gO g r b w<|erI e) i≠co w i) w.length))):=(HE m x t y n u l).mono λv H' h=>⟨h.1,h.2.1,h.2.2.1,h.2.2.2.1,λa b c d=>by
  obtain⟨k,j,p,q,s,-⟩:=h.2.2.2.2 a b c d;exact⟨k,j,p,q,s⟩⟩
end
end
variable{H:Heap}{lo:Nat}{i:Nat}
namespace XUa
def xtr:=zzi @Int.cast_ofNat_Int<|zzi @fv.eq_1<|zzi @fvf.eq_1<|zzi @ite_self.{1} (zzi @mf<|zzi @me<|zzi @md<|zzi @cdC.eq_1<|zzi @arC.eq_1<|zzi @lN<|zzi @cX<|zzi @gu<|zzi @jU<|zzi @BA @xR)
end XUa
open XUa
def QK{F:Value}{e:XI}{n:Nat}(O:lo<=H.length)(W:n<=100000000)(C:SlI H F e)(L:e.length<=100000000)(x:inR n e) :
  Ev cp lo 101 [n,F] H λv H'=>Ext H H'/\∃b,H.length<=b/\v=.tuple #[.slice (some ⟨b,0,none⟩) n n,(sC (erI e) n)]/\H'.get b=some (erL n<|erI e):=by
 have w:=C;obtain⟨I,J,rfl⟩:=C.len;apply stG rfl rfl;unfold M5;simp[kB,aC];refine aA ?_;have j:im (List.replicate n false)=erL n (erI<|e.take 0):=by
  simp[im,erL,erI,List.map_const']
 rw[j];generalize B:H++_=G at *;have⟨u,q⟩:=jX B;have N:=Heap.get_lt u;apply aP (λi S H'=>Keep H.length G H'/\Heap.get H' H.length=some (erL n<|erI<|e.take i)/\∃(z:Nat->Value),S=[z 0,.slice I e.length J,z 2,z 3,.slice (some ⟨H.length,0,none⟩) n n,(sC (erI<|e.take i) n),i,z 7]) e.length
 .exact⟨hU<|Ext.refl _,u,aH (by rw[Bl];rfl)⟩
 .rintro i S H' m ⟨-,-,z,rfl⟩
  exact⟨_,aM,Wc⟩
 .clear u
  rintro i S t m ⟨r,s,z,rfl⟩;have d:Ext H t:=r.ext q<|Nat.le_refl _;have⟨Z,yo,U,yc,ys,K,V,f,R⟩:=(w.mono d).els 0 byO;cases K;have g:=f i m;have D:e.getD i 0 ∈ e:=by rw[au₀,bc₀ m];exact List.getElem_mem m
  have A:=x _ D;obtain⟨k,y⟩:∃k:Nat,e.getD i 0=(k:Int):=⟨(e.getD i 0).toNat,byO⟩;have a:=zG m y;have o:k<n:=byO;rw[y]at g;have Q:=iK (erI<|e.take i) n;have M:=Heap.get_lt s;have p:=C5 (erI<|e.take i) o;rw[<-a]at p;refine aA ?_;cases c:erI (e.take i) k with
  | true=>
   rw[C6 c]at a;rw[a]at p ⊢;refine pt ?_;refine aA ?_;exact⟨r,s,aH ncM⟩
  | false=>
   have l:=JM c n o;rw[<-a]at l;clear a;refine aK ?_ ?_<;>intro h
   case refine_2=>cases h
   generalize P:sC (erI<|e.take<|i+1) n=Y at *;subst l;generalize sC (erI<|e.take i) n=X at *;refine aA ?_;refine⟨nU r _,?_,aH ncM⟩;rw[aE byO]
 .rintro S t ⟨r,s,z,rfl⟩
  rw[List.take_length]at s ⊢;have d:Ext H t:=r.ext q<|Nat.le_refl _;refine aA ?_;refine aL ?_;exact⟨d,_,Nat.le_refl _,rfl,s⟩
section
variable {f:FD}[OkC f]
def Lm{g:El f}{n:Nat}(N:lo<=H.length)(I:Gn (OkC.ok (f:=f)) g)(V:n<=100000000) :
  Ev cp lo 145 [fvf f,n] H λv H'=>Ext H H'/\∃b,H.length<=b/\v=.slice (some ⟨b,0,none⟩) n n/\H'.get b=some (elL<|tab n<|plc g n):=by
 unfold fvf fv;apply stG rfl rfl;unfold Mt;simp[kB,aC];refine aA ?_;refine ay ?_;apply aB (uc (f:=f) I);rintro v d ⟨c,rfl⟩;have e:d.get H.length=some _:=c.get aM;have c:=c.of_app;have J:=Heap.get_lt e;refine aA ?_;have D:elL (List.replicate n (0:El f))=elL (tab n λi=>if n-0<=i then plc g n i else 0):=by
  rw[gH];refine congrArg elL<|ag λi x=>?_;rw[if_neg byO]
 rw[D];generalize B:d++_=G at *;have⟨t,h⟩:=jX B;have e:=h.get e;have y:=c.trans h;have M:=Heap.get_lt t;have K:=h.1;apply aP (λk S H'=>Keep d.length G H'/\Heap.get H' d.length=some (elL<|tab n λi=>if n-k<=i then plc g n i else 0)/\∃(z:Nat->Value),S=[z 0,z 1,.pointer<|some ⟨H.length,0,none⟩,z 3,g.val,.slice (some ⟨d.length,0,none⟩) n n,.int .i64 (pw g k).val,.int .i64<|(n:Int)-1-((k:Nat):Int),z 8,z 9,z 10]) n
 .exact⟨hU<|Ext.refl _,t,aH (by rw[ic,Ja,show((n:Int)-1-((0:Nat):Int))=(n:Int)-1 by omega];rfl)⟩
 .rintro k S H' x ⟨-,-,z,rfl⟩
  exact⟨_,aM,Wr⟩
 .clear t
  rintro k S s U ⟨p,q,z,rfl⟩;have e:=p.get e byO;have L:=Heap.get_lt q;have C:(n:Int)-1-(k:Int)=((n-1-k:Nat):Int):=byO;have l:(n:Int)-1-((k+1:Nat):Int)=((n-1-k:Nat):Int)-1:=byO;rw[C,l];have m:(tab n λi=>if n-k<=i then plc g n i else 0).set (n-1-k) (pw g k)=tab n λi=>if n-(k+1)<=i then plc g n i else 0:=by
   rw[lq];refine ag λi x=>?_;by_cases w:i=n-1-k
   .rw[if_pos w,if_pos byO]
    unfold plc;rw[w,show n-1-(n-1-k)=k by omega]
   .rw[if_neg w]
    by_cases A:n-k<=i
    .rw[if_pos A,if_pos byO]
    .rw[if_neg A,if_neg byO]
  have O:=aJ n λi=>if n-k<=i then plc g n i else 0;generalize tab n (λi=>if n-(k+1)<=i then plc g n i else 0)=F at *;generalize tab n (λi=>if n-k<=i then plc g n i else 0)=R at *;refine aA ?_;generalize a:s.set d.length _=r at *;have P:Keep d.length G r:=by rw[<-a];exact nU p _
  have u:Heap.get r d.length=some (elL F):=by rw[<-a,aE byO]
  have e:=(show Heap.get r H.length=Heap.get s H.length by rw[<-a,aQ byO]).trans e;refine ay ?_;apply aB (iC (f:=f) (pw g k) g);rintro v Q ⟨o,rfl⟩;rw[<-fJ];refine aA ?_;exact⟨fU P<|hU o,o.get u,aH ncM⟩
 .rintro S s ⟨p,q,z,rfl⟩
  have j:tab n (λi=>if n-n<=i then plc g n i else 0)=tab n (plc g n):=ag λi x=>by rw[if_pos byO]
  rw[j]at q;refine aA ?_;refine aL ?_;exact⟨p.ext y byO,_,byO,rfl,q⟩
end
section
variable {f:FD}[OkC f]
theorem As{P:XN}{X:Nat->El f}(a:i<P.length):co (P.map X) i=X (P.getD i 0):=by grind[co]
def zR{P:XN}(a:i<P.length):P.getD i 0 ∈ P:=by rw[au₀,bc₀ a];exact List.getElem_mem a
def getD_inj{P:XN}(e:P.Nodup){i j:Nat}(b:i<P.length)(c:j<P.length)(h:P.getD i 0=P.getD j 0):i=j:=by
 grind[List.pairwise_iff_getElem]
theorem wM(P:XN)(X:Nat->El f)(a:i<=P.length):co (tab (i+1)<|aY<|(P.take i).map X)=aY ((P.take i).map X):=by grind[IS]
def RW{X:Nat->El f}{n b:Nat}{P:XN}{s:List<|El f}{vs vx:Value}(X0:lo<=H.length)(hs:SlE H vs s)(F1:s.length<=10000000)(hX:Places X n)(hP:P.Nodup)(hb:∀i ∈ P,i<n)(hx:SlE H vx<|P.map X)(B1:P.length<=10000000)(w1:b<=10000000) :
  Ev cp lo 149 [fvf f,vs,vx,b] H λv H'=>Ext H H'/\SlE H' v (P.map<|ri X b s.length (co s) P)/\NewV H.length v:=by
 have e1:=hs;have w0:=hx;have R:(P.map X).length=P.length:=ay₀ _;obtain⟨sa,cs,rfl⟩:=hs.len;obtain⟨ax,cx,rfl⟩:=hx.len;rw[R]at w0 ⊢;unfold fvf fv;refine stG rfl rfl ?_;unfold My;simp only[kB,aC];refine aA ?_;generalize hG:H++_=G at *;obtain⟨t,a0⟩:=jX hG;have g1:G.get (H.length+1)=some (elL<|tab (0+1)<|aY<|(P.take 0).map X):=XH
 clear hG;have x1:=a0.1;have L:=e1.mono a0;have M:=w0.mono a0;refine aP (λi S H'=>Ext G H'/\∃bb,H'.get bb=some (elL<|tab (i+1)<|aY<|(P.take i).map X)/\∃(z:Nat->Value),S=[z 0,.slice sa s.length cs,.slice ax P.length cx,b,.pointer<|some ⟨H.length,0,none⟩,z 5,.slice (some ⟨bb,0,none⟩) (i+1)<|i+1,i,z 8,z 9,z 10,z 11,z 12,z 13,z 14,z 15,z 16,z 17,z 18,z 19,z 20,z 21,z 22,z 23,z 24,z 25,z 26,z 27,z 28,z 29,z 30,z 31,z 32,z 33,z 34,z 35,z 36,z 37,z 38]) P.length ?_ ?_ ?_ ?_
 .exact⟨Ext.refl _,H.length+1,g1,aH rfl⟩
 .rintro i S H' W ⟨hx,bb,fb,z,rfl⟩
  exact⟨_,aM,Wc⟩
 .clear g1
  rintro i S H2 W ⟨g,bb,fb,z,rfl⟩;have q0:=g.1;obtain⟨b',o,sp,q1,xs,e,gx,I,j1⟩:=eS (M.mono g) (by rw[R];omega);rw[R]at I j1 e;cases e;have f0:=g.get t;have N:=I i W;rw[As W]at N;have z0:(((i+1:Nat):Int)+1)=((i+2:Nat):Int):=byO;have s0:(P.take<|i+1).map X=(P.take i).map X++[X<|P.getD i 0]:=by rw[nF W,List.map_append];rfl
  have a1:cv (co<|tab (i+1)<|aY<|(P.take i).map X) (co [1,-X (P.getD i 0)])=aY ((P.take<|i+1).map X):=by rw[wM P X byO,Gd,Eb,s0]
  have B:=aJ (i+1)<|aY<|(P.take i).map X;clear I s0;generalize tab (i+1) (aY<|(P.take i).map X)=A at *;generalize aY ((P.take<|i+1).map X)=L2 at *;generalize X (P.getD i 0)=x at *;refine aA ?_;refine ay ?_;refine aS (u9 (0:El f) x) ?_;rintro v H3 ⟨m,rfl⟩;rw[p6];have fb:=m.get fb;have m:=g.trans m;have r0:=m.1;refine aA ?_;refine ay ?_;have L:=bO (sp:=none) fb B;have h1:SlE (H3++[some [Value.int .i64 1,Value.int .i64 (-x).val]]) (.slice (some ⟨H3.length,0,none⟩) 2 2) [(1:El f),-x]:=bO (l:=[(1:El f),-x]) aI rfl;refine aB (pR Wr (L.mono<|Ext.app _ _) h1 Yi Wc (i+2) byO) ?_;rintro v H4 ⟨q,b4,u1,rfl,f4⟩;have K:min (i+2) (A.length+[(1:El f),-x].length-1)=i+2:=by rw[B];simp
  rw[K]at f4 ⊢;rw[a1]at f4;have q:=m.trans q.of_app;clear z0;refine aA ?_;exact⟨q,b4,f4,aH ncM⟩
 .rintro S H2 ⟨g,bb,fb,z,rfl⟩
  rw[List.take_length]at fb;have t:=g.get t;have M:=M.mono g;have L:=L.mono g;have g:=a0.trans g;have q0:=g.1;have B:=aJ (P.length+1)<|aY<|P.map X;have j0:=bO (sp:=none) fb B;have e0:=wM P X<|Nat.le_refl _;rw[List.take_length]at e0;refine bV ?_;refine aB (pR (f:=f) (by exact Nat.le_trans X0 q0) L j0 byO Yi s.length byO) ?_;rintro v H3 ⟨m,b3,r1,rfl,f3⟩;rw[e0]at f3;have K:min s.length (s.length+(tab (P.length+1)<|aY<|P.map X).length-1)=s.length:=Yi
  rw[K]at f3 ⊢;have t:=m.get t;have M:=M.mono m;have m:=g.trans m;have r0:=m.1;clear e0 K j0 B fb L g;have u:=bO (sp:=none) f3<|aJ _ _;refine aA ?_;generalize hE:ri X b s.length (co s) P=E at *;have Y:∀p,p ∈ P->hor (tab s.length<|cv (co s)<|aY<|P.map X) (inv<|X p)*inv (pw (X p) b*dnm X P p (inv<|X p) P.length)=E p:=λp hp=>by rw[<-hE,Ha hP hp]
  clear hE;have A1:=aJ s.length<|cv (co s)<|aY<|P.map X;generalize tab s.length (cv (co s)<|aY<|P.map X)=om at *;refine aP (λi S H'=>Ext H3 H'/\∃vo bo,H3.length<=bo/\Own lo 1 H' vo bo (elL<|(P.take i).map E)/\∃(z:Nat->Value),S=[z 0,z 1,.slice ax P.length cx,b,.pointer<|some ⟨H.length,0,none⟩,z 5,z 6,z 7,.slice (some ⟨b3,0,none⟩) s.length s.length,vo,i,z 11,z 12,z 13,z 14,z 15,z 16,z 17,z 18,z 19,z 20,z 21,z 22,z 23,z 24,z 25,z 26,z 27,z 28,z 29,z 30,z 31,z 32,z 33,z 34,z 35,z 36,z 37,z 38]) P.length ?_ ?_ ?_ ?_
  .exact⟨Ext.refl _,_,H3.length,Nat.le_refl _,Own.nil byO,aH rfl⟩
  .rintro i S H' W ⟨hx,vo,bo,Z,a,z,rfl⟩
   exact⟨_,aM,Wc⟩
  .rintro i S H4 W ⟨q,vo,bo,Z,a,z,rfl⟩
   have hp:=zR W;have w:∀j,j<P.length->(P.getD j 0=P.getD i 0↔j=i):=λj Q=>⟨λh=>getD_inj hP Q W h,λh=>by rw[h]⟩;have x0:=M.mono q;obtain⟨yb,yo,m1,yc,ys,ee,gy,I,k1⟩:=eS x0 (by rw[R];omega);rw[R]at ee I k1;cases ee;have O:False\/∀j,j<P.length->ys[yo+j]?=some (.int .i64 (X<|P.getD j 0).val):=.inr λj Q=>by rw[I j Q,As Q]
   have N:=Wb O i W;clear I;have Y0:(P.take<|i+1).map E=(P.take i).map E++[E<|P.getD i 0]:=by rw[nF W,List.map_append];rfl
   have z1:((P.take i).map E).length<=i:=by rw[ay₀,List.length_take];omega
   generalize P.getD i 0=p at *;have Z0:=hX.ne p<|hb p hp;have b1:=PL (b:=b) hX hP hb hp;have Y:=Y p hp;have t:=q.get t;have u:=u.mono q;have S0:=q.1;refine aA ?_;refine ay ?_;refine aB (mz (f:=f) (X p) Z0) ?_;rintro v H5 ⟨C,rfl⟩;have t:=C.get t;have gy:=C.get gy;have u:=u.mono C;have a:=a.mono C;have C:=q.trans C;refine aA ?_;refine ay ?_;refine aB (Bj (f:=f) (X p) b byO) ?_;rintro v H6 ⟨J,rfl⟩;have t:=J.get t;have gy:=J.get gy;have u:=u.mono J;have a:=a.mono J;have J:=C.trans J;clear C S0 N;generalize inv (X p)=y at *;have o0:pw (X p) b=pw (X p) b*dnm X P p y 0:=by rw[HU,mul_one]
   rw[o0];generalize pw (X p) b=pb at *;clear o0;refine aA ?_;refine aP (λj S H'=>Ext H6 H'/\∃(z:Nat->Value),S=[z 0,z 1,.slice (some ⟨yb,yo,m1⟩) P.length cx,b,.pointer<|some ⟨H.length,0,none⟩,z 5,z 6,z 7,.slice (some ⟨b3,0,none⟩) s.length s.length,vo,i,y.val,.int .i64 (pb*dnm X P p y j).val,j,z 14,z 15,z 16,z 17,z 18,z 19,z 20,z 21,z 22,z 23,z 24,z 25,z 26,z 27,z 28,z 29,z 30,z 31,z 32,z 33,z 34,z 35,z 36,z 37,z 38]) P.length ?_ ?_ ?_ ?_
   .exact⟨Ext.refl _,aH rfl⟩
   .rintro j S H' Q ⟨hx,z,rfl⟩
    exact⟨_,aM,Wc⟩
   .rintro j S H7 Q ⟨k,z,rfl⟩
    have l0:=Wb O j Q;have t:=k.get t;have gy:=k.get gy;have T0:=k.1;by_cases h0:j=i
    .have V:=HP (X:=X) (y:=y) Q<|(w j Q).2 h0
     rw[V];clear V w;subst h0;refine aA ?_;refine aK ?_ ?_<;>intro h
     .simp at h
     clear h;refine aA ?_;exact⟨k,aH ncM⟩
    .have V:=HQ (X:=X) (y:=y) Q λh=>h0<|(w j Q).1 h
     have b0:pb*dnm X P p y (j+1)=pb*dnm X P p y j*(1-X (P.getD j 0)*y):=by rw[V,mul_assoc]
     rw[b0];clear V b0 w;generalize X (P.getD j 0)=x at *;generalize pb*dnm X P p y j=D at *;refine aA ?_;refine aK ?_ ?_<;>intro h
     case refine_2=>exfalso;simp at h;omega
     clear h;refine bV ?_;refine aS (iC (f:=f) x y) ?_;rintro v H8 ⟨r,rfl⟩;have t:=r.get t;have r:=k.trans r;clear l0;refine bV ?_;refine aS (u9 (f:=f) 1<|x*y) ?_;rintro v H9 ⟨F,rfl⟩;have F:=r.trans F;refine bV ?_;refine aB (iC (f:=f) D<|1-x*y) ?_;rintro v c0 ⟨d,rfl⟩;have d:=F.trans d;refine aA ?_;exact⟨d,aH ncM⟩
   .rintro S H7 ⟨k,z,rfl⟩
    clear O w;generalize pb*dnm X P p y P.length=D at *;have t:=k.get t;have u:=u.mono k;have a:=a.mono k;have k:=J.trans k;have T0:=k.1;refine aA ?_;refine ay ?_;refine aS (Is (f:=f) (by first|exact Nat.le_refl _|omega) u byO y) ?_;rintro v H8 ⟨r,rfl⟩;have t:=r.get t;have a:=a.mono r;have r:=k.trans r;refine bV ?_;refine aS (mz (f:=f) D b1) ?_;rintro v H9 ⟨F,rfl⟩;have a:=a.mono F;have F:=r.trans F;refine bV ?_;refine aB (iC (f:=f) (hor om y)<|inv D) ?_;rintro v c0 ⟨d,rfl⟩;rw[Y];have a:=a.mono d;have d:=F.trans d;have o1:=d.1;clear t gy Y;refine aA ?_;refine ay ?_;refine dD (c:=[.int .i64 (E p).val]) (a.mono<|Ext.app _ _) Wr byO byO (by rw[cX];omega) aI Wc rfl rfl ?_;rintro v' p1 U H0 y1;have y0:=Ext.app c0 [some [Value.int .i64 (E p).val]];simp only[as₀,ak₀,an₀]at U;refine aA ?_;refine⟨H0.ext (d.trans y0) Z,v',c0.length+(0+1),byO,?_,aH ncM⟩;rw[Y0,mW];exact U
  .rintro S H4 ⟨q,vo,bo,Z,a,z,rfl⟩
   rw[List.take_length]at a;refine aA ?_;refine aL ?_;exact⟨m.trans q,Sl.ofOwn a,NewV.own a<|Nat.le_trans r0 Z⟩
end
end Go.Proofs.YtgiojnobcjnibaaGreatDoor
