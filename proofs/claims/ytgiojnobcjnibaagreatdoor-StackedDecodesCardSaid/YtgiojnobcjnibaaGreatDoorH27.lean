/- Lemmas. -/
import Derived.Test.YtgiojnobcjnibaaGreatDoorH26
set_option linter.all false
set_option maxHeartbeats 8000000
set_option maxRecDepth 20000
namespace Go.Proofs.YtgiojnobcjnibaaGreatDoor
open Go.Abs
section
theorem ye:(Value.agg #[]).cells=#[]:=rfl
def xr{z:XV}{a:Array Value}{H:Heap}:aG (.tas 153 z) [.iface 153<|.agg a] H=some (.tuple #[.agg a,.bool true]):=rfl
def Cx{z:XV}{a:Array Value}{H:Heap}:aG (.tas 153 z) [.iface 149<|.agg a] H=some (.tuple #[.agg z.toArray,.bool false]):=rfl
def Cy{z:XV}{a:Array Value}{H:Heap}:aG (.tas 149 z) [.iface 149<|.agg a] H=some (.tuple #[.agg a,.bool true]):=rfl
def MZ{cp:Wl}{lo b:Nat}{H:Heap}{c:XV}{R:Wq}(a:lo<=b)(d:H.get b=some c)(k:R undef H):wpH cp lo (.st 0) [.pointer<|some ⟨b,0,none⟩,.agg #[]] H R:=by simp[wpH];rw[IA a];simp[ye,d];simp[oneCells,putCells,gI d];exact k
theorem LineV.mono{H H':Heap}{v:Value}{l:List Bool}(h:LineV H v l)(e:Ext H H'):LineV H' v l:=by
 unfold LineV at *;split at h
 .exact h
 .have⟨mv,a,b⟩:=h
  exact⟨mv,a,b.mono e⟩
def TG{i oB:Option<|Nat×Nat}{n a b:Int}(f:∀k v,i=some (k,v)->k<9/\v<=928)(g:∀k v,oB=some (k,v)->k<9/\v<=928)(h:scQ i oB=some (n,a,b)):∃N:Nat,n=N/\N<=92/\Stat a/\Stat b:=by
 have c:∀(x:Nat×Nat),x.1<9->x.2<=928->rnN x<=92/\Stat ((x.2%30:Nat):Int):=λx d e=>⟨by unfold rnN;omega,.inr ⟨_,rfl,Nat.mod_lt _ Wd⟩⟩;unfold scQ at h;split at h
 .cases h
 .cases h;have⟨d,e⟩:=c _ (f _ _ rfl).1 (f _ _ rfl).2;exact⟨_,rfl,d,e,.inl rfl⟩
 .cases h;have⟨d,e⟩:=c _ (g _ _ rfl).1 (g _ _ rfl).2;exact⟨_,rfl,d,.inl rfl,e⟩
 .split at h
  .cases h;have⟨d,e⟩:=c _ (f _ _ rfl).1 (f _ _ rfl).2;exact⟨_,rfl,d,e,(c _ (g _ _ rfl).1 (g _ _ rfl).2).2⟩
  .cases h
theorem OM{l:List Bool}{n a b:Int}(h:scP l=some (n,a,b)):∃N:Nat,n=N/\N<=92/\Stat a/\Stat b:=by
 unfold scP at h;split at h
 .exact TG (λk v h=>⟨(my h).1,(my h).2.2⟩) (λk v h=>⟨(my h).1,(my h).2.2⟩) h
 .cases h
def qg(V:(Nat->Nat)×(Nat->Nat)):Option (Int×Int×Int)->(Nat->Nat)×(Nat->Nat)
 | none=>V
 | some (n,a,b)=>if n.tmod 3=0 then(vUp V.1 a,V.2) else if n.tmod 3=1 then(vUp V.1 b,vUp V.2 a) else(V.1,vUp V.2 b)
def vts(rows:List<|List Bool):Nat->(Nat->Nat)×(Nat->Nat)
 | 0=>(λ_=>0,λ_=>0)
 | k+1=>qg (vts rows k)<|scP<|rows.getD k []
def yf(rows:List<|List Bool):∀k,(∀j,(vts rows k).1 j<=k)/\∀j,(vts rows k).2 j<=k
 | 0=>⟨λ_=>Nat.le_refl _,λ_=>Nat.le_refl _⟩
 | k+1=>by
  have⟨a,b⟩:=yf rows k;show(∀j,(qg (vts rows k)<|scP<|rows.getD k []).1 j<=_)/\∀j,(qg (vts rows k)<|scP<|rows.getD k []).2 j<=_;generalize vts rows k=V at *;unfold qg;have c:=λj=>Nat.le_succ_of_le<|a j;have d:=λj=>Nat.le_succ_of_le<|b j;split
  .exact⟨c,d⟩
  .split
   .exact⟨qh a _,d⟩
   .split
    .exact⟨qh a _,qh b _⟩
    .exact⟨c,qh b _⟩
def shP(V:(Nat->Nat)×(Nat->Nat))(cols:Nat):Option<|Nat×Nat:=
 let h:=wn V.1 30
 let x:=wn V.2 30
 let R:=3*h+x%3+1
 if 0<V.1 h/\0<V.2 x/\3<=R/\x/3<=8/\2^(x/3+1)<R*cols/\R*cols<=928 then some (R,x/3) else none
def shV:Option (Nat×Nat)->Value
 | none=>.tuple #[.int .i64 0,.int .i64 0,.int .i64 21]
 | some (R,L)=>.tuple #[.int .i64 R,.int .i64 L,.int .i64 0]
def LinesV(H:Heap)(v:Value)(rows:List<|List Bool):Prop:=∃L:XV,Sl (λx=>x) H v L/\L.length=rows.length/\∀i,i<rows.length->LineV H (L.getD i undef) (rows.getD i [])
def MT:vC (λ_=>0)=List.replicate 30 (.int .i64 0):=Wf
namespace XVh
def xtr:=zzi @Int.cast_ofNat_Int<|zzi @ite_self.{1} (zzi @ph<|zzi @ye<|zzi @xr<|zzi @Cx @Cy)
end XVh
open XVh
def Qy{lo:Nat}{H:Heap}{v:Value}{rows:List<|List Bool}{cols:Nat}(W:lo<=H.length)(hv:LinesV H v rows)(hr:rows.length<=4096)(hc:cols<=30) :
  Ev cpL lo 47 [v,.int .i64 cols] H λr H'=>Ext H H'/\r=shV (shP (vts rows rows.length) cols):=by
 obtain⟨L,hL,b0,U⟩:=hv;have el:=λk (hk:k<L.length)=>hL.els undef byO;obtain⟨a1,c1,rfl⟩:=hL.len;rw[b0]at el ⊢;have hz:=MT;have J:=yf rows;have f:∀k,vts rows (k+1)=qg (vts rows k) (scP<|rows.getD k []):=λk=>rfl;have h0:vts rows 0=(λ_=>0,λ_=>0):=rfl;replace el:=Wa el;replace U:=Wa U;replace J:=Wa J;replace f:=Wa f;clear hL b0;generalize hR:rows.length=R at *;refine stG rfl rfl ?_;unfold Re;simp only[kB,aC];refine aF ?_;have a0:=Ext.app H [some<|List.replicate 30<|Value.int .i64 0,some<|List.replicate 30<|Value.int .i64 0];refine aP (λk S H'=>Ext H H'/\H.length+2<=H'.length/\Heap.get H' H.length=some (vC (vts rows k).1)/\Heap.get H' (H.length+1)=some (vC (vts rows k).2)/\∃(z:Nat->Value),S=[.slice a1 R c1,.int .i64 cols,z 2,z 3,z 4,.pointer<|some ⟨H.length,0,none⟩,.pointer<|some ⟨H.length+1,0,none⟩,z 7,z 8,z 9,z 10,z 11,z 12,z 13,z 14,.slice a1 R c1,.int .i64 R,.int .i64 k,z 18,z 19,z 20,z 21,z 22,z 23,z 24,z 25,z 26,z 27]) R ?_ ?_ ?_ ?_
 .exact⟨a0,Wc,by rw[h0,hz];exact aI,by rw[h0,hz,bI];rfl,aH rfl⟩
 .rintro k S H' hk ⟨d,o,t,y,z,rfl⟩
  exact⟨_,bR,Wc⟩
 .clear a0 h0 hz
  rintro k S H' hk ⟨d,o,t,y,z,rfl⟩;obtain⟨xb,xo,Y0,xc,xs,e1,gx,fx,lx⟩:=Wb el k hk;cases e1;have fk:=fx k hk;have D:=(Wb U k hk).mono d;have r0:=d.get gx;obtain⟨l0,o0⟩:=Wb J k;have hs:=Wb f k;rw[hs];have g:∀j,(vts rows k).1 j<=100000:=λj=>Nat.le_trans (l0 j) byO;have l:∀j,(vts rows k).2 j<=100000:=λj=>Nat.le_trans (o0 j) byO;clear hs fx l0 o0;generalize (L.getD k undef)=w at *;generalize vts rows k=V at *;obtain⟨A,B⟩:=V;simp only at t y g l;unfold LineV at D;cases Q:scP (rows.getD k [])with
  | none=>
   rw[Q]at D;simp only at D;subst D;clear Q g l;refine aF ?_;refine fO ?_;refine aF ?_;refine dw ?_;refine aF ?_;refine fC ?_;refine MZ (Nat.le_trans (Nat.le_trans W d.1)<|Nat.le_refl _) aI ?_;have e:=Ext.app H' [some []];have t:=e.get t;have y:=e.get y;have d:=d.trans e;have o:H.length+2<=(H'++[some []]).length:=Wr
   refine aF ?_;exact⟨d,o,t,y,aH ncM⟩
  | some x=>
   obtain⟨n,a,b⟩:=x;rw[Q]at D;obtain⟨mv,rfl,hm⟩:=D;obtain⟨N,rfl,hN,ha,hb⟩:=OM Q;clear Q;obtain⟨am,cm,rfl⟩:=hm.len;clear hm;generalize (((rows.getD k []).drop 34).take<|(rows.getD k []).length-35-34).length=lm at fk;have e3:((N:Nat):Int).tmod 3=((N%3:Nat):Int):=rfl;have y0:N%3<3:=Nat.mod_lt _ Wd;have X:qg (A,B) (some (((N:Nat):Int),a,b))=if N%3=0 then(vUp A a,B) else if N%3=1 then(vUp A b,vUp B a) else(A,vUp B b):=by
    show(if ((N:Nat):Int).tmod 3=0 then _ else if ((N:Nat):Int).tmod 3=1 then _ else _)=_;rw[e3];have:N%3=0\/N%3=1\/N%3=2:=byO;rcases this with h|h|h<;>rw[h]<;>rfl
   rw[X];clear X;have c0:=Nat.le_trans W d.1;have x0:H.length<H'.length/\H.length+1<H'.length:=byO;obtain⟨z0,H0⟩:=x0;clear e3;have e3:((N:Nat):Int).tmod 3=((N%3:Nat):Int):=rfl;generalize N%3=m at *;have w0:m=0\/m=1\/m=2:=byO;refine aF ?_;refine dw ?_;refine aF ?_;generalize hG:H'++_=G;have e:Ext H' G:=Xh
   have g8:Heap.get G H'.length=some [.int .i64 N,.int .i64 a,.int .i64 b,.slice am lm cm]:=XE
   clear hG;have d:=d.trans e;have t:=e.get t;have y:=e.get y;have o:H.length+2<=G.length:=Nat.le_trans o e.1;clear e c0 r0 fk;rcases w0 with Z|Z|Z
   .rw[if_pos Z]
    have d0:decide (((m:Nat):Int)=0)=true:=decide_eq_true byO;clear Z e3;refine dw ?_;refine iU ?_;refine aB (Dg (a:=A) (x:=a) W t ha g) ?_;rintro r K rfl;have d:=d.set (i:=H.length) (x:=some<|vC<|vUp A a)<|Nat.le_refl _;have F:Heap.get (List.set G H.length<|some<|vC<|vUp A a) H.length=some (vC<|vUp A a):=aE byO;have I:Heap.get (List.set G H.length<|some<|vC<|vUp A a) (H.length+1)=some (vC B):=by rw[aQ byO];exact y
    have o:H.length+2<=(List.set G H.length<|some<|vC<|vUp A a).length:=Yj
    refine aF ?_;exact⟨d,o,F,I,aH ncM⟩
   .rw[if_neg byO,if_pos Z]
    have d0:decide (((m:Nat):Int)=0)=false:=decide_eq_false byO;have d1:decide (((m:Nat):Int)=1)=true:=decide_eq_true byO;clear Z e3;refine fO ?_;(try simp only[aC]);refine dw ?_;refine iU ?_;refine aB (Dg (a:=B) (x:=a) byO y ha l) ?_;rintro r K rfl;have d:=d.set (i:=H.length+1) (x:=some<|vC<|vUp B a) byO;have y:Heap.get (List.set G (H.length+1)<|some<|vC<|vUp B a) (H.length+1)=some (vC<|vUp B a):=aE byO;have t:Heap.get (List.set G (H.length+1)<|some<|vC<|vUp B a) H.length=some (vC A):=by rw[aQ byO];exact t
    have g8:Heap.get (List.set G (H.length+1)<|some<|vC<|vUp B a) H'.length=some [.int .i64 N,.int .i64 a,.int .i64 b,.slice am lm cm]:=by rw[aQ byO];exact g8
    have o:H.length+2<=(List.set G (H.length+1)<|some<|vC<|vUp B a).length:=Yj
    generalize List.set G (H.length+1) (some<|vC<|vUp B a)=G1 at *;refine iU ?_;refine aB (Dg (a:=A) (x:=b) W t hb g) ?_;rintro r K rfl;have d:=d.set (i:=H.length) (x:=some<|vC<|vUp A b)<|Nat.le_refl _;have F:Heap.get (List.set G1 H.length<|some<|vC<|vUp A b) H.length=some (vC<|vUp A b):=aE byO;have I:Heap.get (List.set G1 H.length<|some<|vC<|vUp A b) (H.length+1)=some (vC<|vUp B a):=by rw[aQ byO];exact y
    have o:H.length+2<=(List.set G1 H.length<|some<|vC<|vUp A b).length:=Yj
    refine aF ?_;exact⟨d,o,F,I,aH ncM⟩
   .rw[if_neg byO,if_neg byO]
    have d0:decide (((m:Nat):Int)=0)=false:=decide_eq_false byO;have d1:decide (((m:Nat):Int)=1)=false:=decide_eq_false byO;have d2:decide (((m:Nat):Int)=2)=true:=decide_eq_true byO;clear Z e3;refine fO ?_;(try simp only[aC]);refine fO ?_;(try simp only[aC]);refine dw ?_;refine iU ?_;refine aB (Dg (a:=B) (x:=b) byO y hb l) ?_;rintro r K rfl;have d:=d.set (i:=H.length+1) (x:=some<|vC<|vUp B b) byO;have I:Heap.get (List.set G (H.length+1)<|some<|vC<|vUp B b) (H.length+1)=some (vC<|vUp B b):=aE byO;have F:Heap.get (List.set G (H.length+1)<|some<|vC<|vUp B b) H.length=some (vC A):=by rw[aQ byO];exact t
    have o:H.length+2<=(List.set G (H.length+1)<|some<|vC<|vUp B b).length:=Yj
    refine aF ?_;exact⟨d,o,F,I,aH ncM⟩
 rintro S H' ⟨d,o,t,y,z,rfl⟩;have M:=Wb J R;have g:∀j,(vts rows R).1 j<=100000:=λj=>Nat.le_trans (M.1 j) byO;have l:∀j,(vts rows R).2 j<=100000:=λj=>Nat.le_trans (M.2 j) byO;clear M J f U el a0 h0 hz;generalize vts rows R=V at *;obtain⟨A,B⟩:=V;simp only at t y g l;have T0:=rW A 30<|Nat.le_refl _;have X0:=rW B 30<|Nat.le_refl _;have s:shP (A,B) cols=if 0<A (wn A 30)/\0<B (wn B 30)/\3<=3*wn A 30+wn B 30%3+1/\wn B 30/3<=8/\2^(wn B 30/3+1)<(3*wn A 30+wn B 30%3+1)*cols/\(3*wn A 30+wn B 30%3+1)*cols<=928 then some (3*wn A 30+wn B 30%3+1,wn B 30/3) else none:=rfl
 have g0:=(Dj (lo:=lo) t g);have j0:=(Dj (lo:=lo) y l);generalize A (wn A 30)=u at *;generalize B (wn B 30)=w at *;generalize wn A 30=p at *;generalize wn B 30=q at *;replace s:=Wa s;clear g l;refine iU ?_;refine aB g0 ?_;rintro r K ⟨rfl,rfl⟩;refine aF ?_;refine fC ?_;refine aB j0 ?_;rintro r K ⟨rfl,rfl⟩;clear g0 j0;have t3:((q:Nat):Int).tmod 3=((q%3:Nat):Int):=rfl;have d3:((q:Nat):Int).tdiv 3=((q/3:Nat):Int):=rfl;have y0:q%3<3:=Nat.mod_lt _ Wd;have S0:q/3<=30:=byO;have eR:3*((p:Nat):Int)+((q%3:Nat):Int)+1=((3*p+q%3+1:Nat):Int):=byO;have s0:3*p+q%3+1<=90:=byO;generalize 3*p+q%3+1=Y at *;generalize q%3=m at *;generalize q/3=E at *;have eY:((Y:Nat):Int)*((cols:Nat):Int)=((Y*cols:Nat):Int):=(Int.natCast_mul _ _).symm;have hY:Y*cols<=90*30:=Nat.mul_le_mul s0 hc;have C:=λ(h:E<=8)=>(DK (lo:=lo) (H:=K) h).sub jQ;have P:=λ(h:E<=8)=>Nat.pow_le_pow_right (show 0<2 by decide) (show E+1<=9 by omega);generalize Y*cols=n at *;generalize 2^(E+1)=c at *;replace C:=Wa C;replace P:=Wa P;refine aF ?_;refine eD ?_ ?_<;>intro h
 .have O:¬ (0<u/\0<w/\3<=Y/\E<=8/\c<n/\n<=928):=by
   simp at h;omega
  clear h;rw[Wb s,if_neg O];clear O s;refine aF ?_;refine bD ?_;exact⟨d,rfl⟩
 have q0:0<u/\0<w/\3<=Y/\E<=8:=by
  simp at h;omega
 clear h;obtain⟨y1,y2,y3,y4⟩:=q0;have P:=Wb P y4;rw[show 2^9=512 from rfl]at P;refine aF ?_;refine fC ?_;refine aB (Wb C y4) ?_;rintro r K' ⟨rfl,rfl⟩;clear C;(try simp only[aC]);refine eD ?_ ?_<;>intro h
 .have O:¬ (0<u/\0<w/\3<=Y/\E<=8/\c<n/\n<=928):=by
   simp at h;omega
  clear h;rw[Wb s,if_neg O];clear O s;refine aF ?_;refine bD ?_;exact⟨d,rfl⟩
 have e0:0<u/\0<w/\3<=Y/\E<=8/\c<n/\n<=928:=by
  simp at h;omega
 clear h;rw[Wb s,if_pos e0];clear e0 s;refine aF ?_;refine bD ?_;exact⟨d,rfl⟩
end
section
def LI{H:Heap}:aG (.eqA false []) [.agg #[],.agg #[]] H=some (.bool true):=rfl
def isN(l:List Bool)(r:Nat):Bool:=match scP l with
 | none=>false
 | some (n,_,_)=>decide<|n=(r:Nat)
namespace XVi
def xtr:=zzi @Int.cast_ofNat_Int<|zzi @ite_self.{1} (zzi @ph<|zzi @ye<|zzi @xr<|zzi @Cx<|zzi @Cy @LI)
end XVi
open XVi
def Et{lo b r:Nat}{H:Heap}{w:Value}{l:List Bool}(c:LineV H w l)(h:H.get b=some [.int .i64 r]) :
  Ev cpL lo 91 [w,.pointer<|some ⟨b,0,none⟩] H λv H'=>H'=H/\v=.bool (isN l r):=by
 apply stG (np:=2) (d:=2) (show cpL 91=some CT from rfl) rfl;unfold qF kU;simp[kB,aC];unfold LineV at c;unfold isN;cases a:scP l with
 | none=>
  rw[a]at c;simp only at c;subst c;by_cases f:r=0
  .have d:decide (((r:Nat):Int)=0)=true:=decide_eq_true byO
   refine aF ?_;refine bQ bR ?_;exact⟨rfl,rfl⟩
  .have d:decide (((r:Nat):Int)=0)=false:=decide_eq_false byO
   refine aF ?_;refine bQ bR ?_;exact⟨rfl,rfl⟩
 | some x=>
  have⟨n,p,q⟩:=x;rw[a]at c;obtain⟨mv,rfl,g⟩:=c;by_cases e:n=0
  .have d:decide (n=0)=true:=decide_eq_true e
   clear e;refine aF ?_;refine bQ bR ?_;exact⟨rfl,rfl⟩
  .have d:decide (n=0)=false:=decide_eq_false e
   refine aF ?_;refine bQ bR ?_;exact⟨rfl,rfl⟩
def ixO(rows:List<|List Bool)(r:Nat):Option Nat:=(List.range rows.length).find? λi=>isN (rows.getD i []) r
def IK{rows:List<|List Bool}{r i:Nat}(b:i<rows.length)(h:isN (rows.getD i []) r=true)(c:∀j,j<i->isN (rows.getD j []) r=false):ixO rows r=some i:=by unfold ixO;rw[List.find?_range_eq_some];exact⟨h,List.mem_range.2 b,λj a=>by rw[c j a];rfl⟩
def IJ{rows:List<|List Bool}{r:Nat}(b:∀j,j<rows.length->isN (rows.getD j []) r=false):ixO rows r=none:=by unfold ixO;rw[List.find?_eq_none];intro i a;rw[b i<|List.mem_range.1 a];decide
def ixI:Option Nat->Int
 | none=>-1
 | some i=>(i:Nat)
def P7{lo b r:Nat}{H:Heap}{v:Value}{rows:List<|List Bool}(I:LinesV H v rows)(D:H.get b=some [.int .i64 r])(O:rows.length<=4096) :
  Ev cpL lo 90 [v,.func (.func 91) #[] #[.pointer<|some ⟨b,0,none⟩]] H λr' H'=>H'=H/\r'=.int .i64 (ixI<|ixO rows r):=by
 have⟨L,m,f,g⟩:=I;have l:=λk (a:k<L.length)=>m.els undef byO;obtain⟨A,B,rfl⟩:=m.len;rw[f]at l ⊢;have n:=λk (a:k<rows.length)=>Et (lo:=lo) (g k a) D;have s:=λi (F:i<rows.length)=>IK (r:=r) F;have x:=@IJ rows r;replace l:=Wa l;replace n:=Wa n;replace s:=Wa s;replace x:=Wa x;generalize rows.length=R at *;generalize ixO rows r=o at *;apply stG rfl rfl;unfold Rw;simp[kB,aC];refine aF ?_;apply aP (λk S H'=>H=H'/\(∀j,j<k->isN (rows.getD j []) r=false)/\∃(z:Nat->Value),S=[.slice A R B,.func (.func 91) #[] #[.pointer<|some ⟨b,0,none⟩],z 2,z 3,.int .i64 R,.int .i64 k,z 6]) R
 .exact⟨rfl,λj G=>byO,aH rfl⟩
 .rintro k S H' a ⟨rfl,e,z,rfl⟩
  exact⟨_,bR,Wc⟩
 .rintro k S H' a ⟨rfl,e,z,rfl⟩
  have⟨Q,V,J,U,xs,C,N,y,P⟩:=Wb l k a;cases C;have M:=y k a;have p:=Wb n k a;have d:=λh=>Wb s k a h e;have c:=λ(h:isN (rows.getD k []) r=false) (j:Nat) (G:j<k+1)=>show isN (rows.getD j []) r=false by
   by_cases q:j=k
   .rw[q];exact h
   .exact e j byO
  clear e y;replace d:=Wa d;replace c:=Wa c;generalize isN (rows.getD k []) r=t at *;generalize L.getD k undef=w at *;refine aF ?_;refine fC ?_;apply aB p;rintro u K ⟨rfl,rfl⟩;cases t with
  | true=>
   obtain rfl:=Wb d rfl;refine aF ?_;refine dw ?_;refine aF ?_;refine bD ?_;exact⟨rfl,rfl⟩
  | false=>
   refine aF ?_;refine fO ?_;refine aF ?_;exact⟨We,Wb c rfl,aH ncM⟩
 rintro S H' ⟨rfl,e,z,rfl⟩;obtain rfl:=Wb x e;refine aF ?_;refine bD ?_;exact⟨rfl,rfl⟩
end
section
def wrM(M:List Bool)(n c:Nat):Option Nat:=match rdP ((M.drop<|17*c).take 17)with
 | none=>none
 | some (k,v)=>if k=3*(n%3) then some v else none
def wrV:Option Nat->Value
 | none=>.tuple #[.int .i64 0,.bool false]
 | some v=>.tuple #[.int .i64 v,.bool true]
open XVf
def U5{lo b n c:Nat}{x y:Int}{H:Heap}{mv:Value}{M:List Bool}(A:lo<=H.length)(w:H.get b=some tabV)(s:SlB H mv M)(D:17*c+17<=M.length)(F:c<=100000)(I:n<=1000) :
  Ev cpL lo 92 [.agg #[.int .i64 n,.int .i64 x,.int .i64 y,mv],.pointer<|some ⟨b,0,none⟩,.int .i64 c] H λr H'=>Ext H H'/\r=wrV (wrM M n c):=by
 obtain⟨N,J,f⟩:=eO s (x:=17*((c:Nat):Int)) (y:=17*((c:Nat):Int)+17) (a:=17*c) (b:=17*c+17) byO byO byO byO;rw[show 17*c+17-17*c=17 by omega]at f;have e:=λ(K:Heap) (t:Ext H K)=>(QR (lo:=lo) (H:=K) (by have:=t.1;omega) (t.get w) (f.mono t) Wr).sub jQ;obtain⟨l,p,rfl⟩:=s.len;have C:wrM M n c=match rdP ((M.drop<|17*c).take 17)with
  | none=>none
  | some (k,v)=>if k=3*(n%3) then some v else none:=rfl
 have j:=@my<|(M.drop<|17*c).take 17;generalize rdP ((M.drop<|17*c).take 17)=o at *;generalize wrM M n c=g at *;subst C;have L:((n:Nat):Int).tmod 3=((n%3:Nat):Int):=rfl;have B:n%3<3:=Nat.mod_lt _ Wd;generalize n%3=m at *;clear s f w;replace e:=Wa e;apply stG rfl rfl;unfold Rx;simp[kB,aC];refine aF ?_;have i:=Ext.app H [some [.int .i64 n,.int .i64 x,.int .i64 y,.slice l M.length p]];have u:Heap.get (H++[some [.int .i64 n,.int .i64 x,.int .i64 y,.slice l M.length p]]) H.length=some [.int .i64 n,.int .i64 x,.int .i64 y,.slice l M.length p]:=aI;generalize H++[some [.int .i64 n,.int .i64 x,.int .i64 y,.slice l M.length p]]=G at *;refine fC ?_;apply aB (Wb e _ i);rintro r K ⟨d,rfl⟩;have u:=d.get u;have d:=i.trans d;clear e i;rcases o with _|⟨k,v⟩
 .unfold rdV
  refine aF ?_;refine dw ?_;refine aF ?_;refine bD ?_;exact⟨d,rfl⟩
 .have z:=(j rfl).1
  clear j;unfold rdV;by_cases q:k=3*m
  .simp[if_pos q]
   refine aF ?_;refine eD ?_ ?_<;>intro h
   .exfalso;simp at h;try omega
   clear h q;refine aF ?_;refine bD ?_;exact⟨d,rfl⟩
  .simp[if_neg q]
   refine aF ?_;refine eD ?_ ?_<;>intro h;rotate_left
   .exfalso;simp at h;try omega
   clear h q;refine aF ?_;refine bD ?_;exact⟨d,rfl⟩
end
section
def ny(l:List Bool):List Bool:=(l.drop 34).take<|l.length-35-34
def clO(rows:List<|List Bool)(r c:Nat):Option Nat:=match ixO rows r with
 | none=>none
 | some i=>wrM (ny<|rows.getD i []) r c
def clI(rows:List<|List Bool)(cols i:Nat):Option Nat:=clO rows (i/cols)<|i%cols
def fA(f:Nat->Int)(T:Nat):XV:=(List.range T).map λi=>.int .i64<|f i
def pa(f:Nat->Int)(T:Nat):(fA f T).length=T:=by simp[fA]
def A6{f:Nat->Int}{T i:Nat}{v:Int}:(fA f T).set i (.int .i64 v)=fA (λj=>if j=i then v else f j) T:=by
 refine List.ext_getElem (by simp[fA]) λj a b=>?_;simp[fA,List.getElem_set,List.getElem_map,List.getElem_range];by_cases q:i=j
 .subst q;simp
 .rw[if_neg q,if_neg λh=>q h.symm]
def wdF(rows:List<|List Bool)(cols n j:Nat):Int:=if j<n then(((clI rows cols j).getD 0:Nat):Int) else 0
def Ji{rows:List<|List Bool}{cols n v:Nat}(h:clI rows cols n=some v):(λj=>if j=n then((v:Nat):Int) else wdF rows cols n j)=wdF rows cols (n+1):=by
 funext j;unfold wdF;by_cases q:j=n
 .subst q;rw[if_pos rfl,if_pos byO,h];rfl
 .rw[if_neg q]
  by_cases c:j<n
  .rw[if_pos c,if_pos byO]
  .rw[if_neg c,if_neg byO]
def Jh{rows:List<|List Bool}{cols n:Nat}(h:clI rows cols n=none):wdF rows cols (n+1)=wdF rows cols n:=by
 funext j;unfold wdF;by_cases q:j=n
 .subst q;rw[if_pos byO,if_neg byO,h];rfl
 .by_cases c:j<n
  .rw[if_pos c,if_pos byO]
  .rw[if_neg c,if_neg byO]
def erF(rows:List<|List Bool)(cols n:Nat):XI:=((List.range n).filter λi=>(clI rows cols i).isNone).map λi:Nat=>(i:Int)
def zE{rows:List<|List Bool}{cols n:Nat}(h:clI rows cols n=none):erF rows cols (n+1)=erF rows cols n++[((n:Nat):Int)]:=by unfold erF;rw[List.range_succ,List.filter_append,List.map_append];simp[h]
def zF{rows:List<|List Bool}{cols n v:Nat}(h:clI rows cols n=some v):erF rows cols (n+1)=erF rows cols n:=by unfold erF;rw[List.range_succ,List.filter_append,List.map_append];simp[h]
def pF(rows:List<|List Bool)(cols n:Nat):(erF rows cols n).length<=n:=by unfold erF;rw[ay₀];exact Nat.le_trans (List.length_filter_le _ _) Wc
theorem GZ{rows:List<|List Bool}{cols r c:Nat}(a:c<cols):clI rows cols (r*cols+c)=clO rows r c:=by unfold clI;rw[bb₀ r cols,Nat.mul_add_div byO,Nat.mul_add_mod,Nat.div_eq_of_lt a,Nat.mod_eq_of_lt a,Nat.add_zero]
def Pc{rows:List<|List Bool}{r i:Nat}(h:ixO rows r=some i):i<rows.length/\isN (rows.getD i []) r=true:=by unfold ixO at h;rw[List.find?_range_eq_some]at h;exact⟨List.mem_range.1 h.2.1,h.1⟩
def Jj(rows:List<|List Bool)(cols T:Nat):fA (wdF rows cols 0) T=fM (List.replicate T 0):=by unfold fA fM;refine List.ext_getElem Wc λi a b=>?_;simp[wdF]
def w10:Option Nat->Value
 | none=>.int .i64 0
 | some v=>.int .i64 v
def w11:Option Nat->Value
 | none=>.bool false
 | some _=>.bool true
theorem RU(o:Option Nat):wrV o=.tuple #[w10 o,w11 o]:=by cases o<;>rfl
def P9{l:List Bool}{r:Nat}(h:isN l r=true):∃a b,scP l=some (((r:Nat):Int),a,b):=by
 unfold isN at h;split at h
 .cases h
 next n a b e=>
  rw[of_decide_eq_true h]at e;exact⟨a,b,e⟩
namespace XVk
def xtr:=zzi @Int.cast_ofNat_Int<|zzi @ite_self.{1} (zzi @ph<|zzi @xr @pa)
end XVk
open XVk
def Gf{lo b R cols:Nat}{H:Heap}{v:Value}{rows:List<|List Bool}(b1:lo<=H.length)(hg:H.get b=some tabV)(hv:LinesV H v rows)(hr:rows.length<=4096)(hR:R<=90)(x1:1<=cols)(hc:cols<=30)(hw:∀i,i<rows.length->(rows.getD i []).length=17*cols+69) :
  Ev cpL lo 48 [.pointer<|some ⟨b,0,none⟩,v,.int .i64 R,.int .i64 cols] H λr H'=>Ext H H'/\∃vw ve,r=.tuple #[vw,ve]/\SlI H' vw ((List.range<|R*cols).map<|wdF rows cols<|R*cols)/\SlI H' ve (erF rows cols<|R*cols):=by
 obtain⟨L,hL,Z,N⟩:=hv;have o:=λ(r:Nat) (K:Heap) (q:Nat) (d:Ext H K) (hq:K.get q=some [.int .i64 r])=>P7 (lo:=lo) (H:=K) (b:=q) (r:=r) (rows:=rows) ⟨L,hL.mono d,Z,λi hi=>(N i hi).mono d⟩ hq hr;have el:=λk (hk:k<L.length)=>hL.els undef byO;obtain⟨a1,c1,rfl⟩:=hL.len;rw[Z]at el o ⊢;have hT:R*cols<=90*30:=Nat.mul_le_mul hR hc;have eT:((R:Nat):Int)*((cols:Nat):Int)=((R*cols:Nat):Int):=(Int.natCast_mul _ _).symm;have hz:=Jj rows cols<|R*cols;have O:erF rows cols 0=[]:=rfl;have j0:∀r c,r<R->c<cols->r*cols+c<R*cols:=λr c h1 h2=>by
  have:=Nat.mul_le_mul_right cols (show r+1<=R by omega);rw[Nat.add_mul]at this;omega
 have p:fA (wdF rows cols<|R*cols) (R*cols)=((List.range<|R*cols).map<|wdF rows cols<|R*cols).map (Value.int .i64):=by
  unfold fA;rw[List.map_map];rfl
 generalize a0:R*cols=T at *;replace el:=Wa el;replace o:=Wa o;replace N:=Wa N;replace hw:=Wa hw;replace j0:=Wa j0;replace p:=Wa p;replace hz:=Wa hz;replace O:=Wa O;replace a0:=Wa a0;clear hL Z;apply stG rfl rfl;unfold Rf;simp only[kB,aC];refine aF ?_;have H0:=Ext.app H [some<|fM<|List.replicate T 0];apply aP (λk S H'=>Ext H H'/\H.length+1<=H'.length/\Heap.get H' H.length=some (fA (wdF rows cols<|k*cols) T)/\∃ev q,H.length+1<=q/\Own lo 1 H' ev q ((erF rows cols<|k*cols).map<|Value.int .i64)/\∃(z:Nat->Value),S=[.pointer<|some ⟨b,0,none⟩,.slice a1 rows.length c1,.int .i64 R,.int .i64 cols,.slice (some ⟨H.length,0,none⟩) T T,ev,z 6,z 7,z 8,z 9,z 10,z 11,z 12,z 13,z 14,.int .i64 R,.int .i64 k,z 17,z 18,z 19,z 20,z 21,z 22,z 23,z 24,z 25,z 26]) R
 .refine⟨H0,Wc,?_,.slice none 0 0,H.length+1,Nat.le_refl _,?_,aH rfl⟩
  .rw[Nat.zero_mul,Wb hz];exact aI
  .rw[Nat.zero_mul,Wb O];exact Own.nil byO
 .rintro k S H' hk ⟨-,-,-,ev,q,-,-,z,rfl⟩
  exact⟨_,bR,Wc⟩
 .clear H0 hz O p
  rintro k S A hk ⟨d,hl,m,ev,q0,j1,a,z,rfl⟩;obtain⟨q,a,hq⟩:=kx a (A.length+1) byO;have l:H.length+1<=q/\q≠A.length:=byO;clear hq j1;obtain⟨l,F⟩:=l;have o1:lo<=A.length:=byO;refine aF ?_;have M:=Ext.app A [some [.int .i64 k]];have u:Heap.get (A++[some [Value.int .i64 k]]) A.length=some [.int .i64 k]:=aI;have m:=M.get m;have a:=a.mono M;have d:=d.trans M;have t:A.length<(A++[some [Value.int .i64 k]]).length:=Wc
  generalize A++[some [Value.int .i64 k]]=G at *;have u1:H.length<A.length:=byO;generalize A.length=W at *;have o:=Wb o k G W d u;clear M hl;refine fC ?_;refine aB o ?_;rintro r K ⟨rfl,rfl⟩;clear o;have z1:k*cols<=90*30:=Nat.mul_le_mul byO hc;have ek:((k:Nat):Int)*((cols:Nat):Int)=((k*cols:Nat):Int):=(Int.natCast_mul _ _).symm;have g0:=λc h=>Wb j0 k c hk h;have c0:=λc (h:c<cols)=>GZ (rows:=rows) (r:=k) h;have w0:(k+1)*cols=k*cols+cols:=by rw[Nat.add_mul,Nat.one_mul]
  rw[w0];clear w0;generalize Y0:k*cols=w at *;clear Y0;replace g0:=Wa g0;replace c0:=Wa c0;replace ek:=Wa ek;refine aF ?_;refine aP (λc S H'=>Ext H H'/\W<H'.length/\Heap.get H' W=some [.int .i64 k]/\Heap.get H' H.length=some (fA (wdF rows cols<|w+c) T)/\∃ev q,H.length+1<=q/\q≠W/\Own lo 1 H' ev q ((erF rows cols<|w+c).map<|Value.int .i64)/\∃(z:Nat->Value),S=[.pointer<|some ⟨b,0,none⟩,.slice a1 rows.length c1,.int .i64 R,.int .i64 cols,.slice (some ⟨H.length,0,none⟩) T T,ev,.pointer<|some ⟨W,0,none⟩,.int .i64<|ixI<|ixO rows k,z 8,z 9,z 10,z 11,z 12,z 13,z 14,.int .i64 R,.int .i64 k,z 17,z 18,.int .i64 cols,.int .i64 c,z 21,z 22,z 23,z 24,z 25,z 26]) cols ?_ ?_ ?_ ?_
  .exact⟨d,t,u,m,_,q,l,F,a,aH rfl⟩
  .rintro c S H' b0 ⟨-,-,-,-,ev,q,-,-,-,z,rfl⟩
   exact⟨_,bR,Wc⟩
  .clear d t u m l F a
   rintro c S X b0 ⟨d,t,u,m,ev,q,l,F,a,z,rfl⟩;have hn:=Wb g0 c b0;have s0:=Wb c0 c b0;have en:((w:Nat):Int)+((c:Nat):Int)=((w+c:Nat):Int):=byO;have ek:=Wb ek;have y1:=pF rows cols<|w+c;have P:=λv=>@Ji rows cols (w+c) v;have Q:=@Jh rows cols<|w+c;have U:=λv=>@zF rows cols (w+c) v;have V:=@zE rows cols<|w+c;rw[show w+(c+1)=w+c+1 from rfl];rw[s0]at P Q U V;generalize g1:w+c=n at *;have A1:n<=2700:=byO;clear s0 g1;replace P:=Wa P;replace Q:=Wa Q;replace U:=Wa U;replace V:=Wa V;refine aF ?_;refine kA (λS Y=>Ext X Y/\∃(z:Nat->Value),S=[.pointer<|some ⟨b,0,none⟩,.slice a1 rows.length c1,.int .i64 R,.int .i64 cols,.slice (some ⟨H.length,0,none⟩) T T,ev,.pointer<|some ⟨W,0,none⟩,.int .i64<|ixI<|ixO rows k,.int .i64 c,.int .i64 n,w10<|clO rows k c,w11<|clO rows k c,z 12,z 13,z 14,.int .i64 R,.int .i64 k,z 17,z 18,.int .i64 cols,.int .i64 c,z 21,z 22,z 23,z 24,z 25,z 26]) ?_ ?_
   .clear P Q U V a u m en ek
    have X0:clO rows k c=match ixO rows k with
     | none=>none
     | some i=>wrM (ny<|rows.getD i []) k c:=rfl
    generalize clO rows k c=g at *;subst X0;cases ho:ixO rows k with
    | none=>
     clear ho;simp only[ixI];refine eD ?_ ?_<;>intro h
     .simp at h
     clear h;(try simp only[aC]);exact⟨Ext.refl _,aH rfl⟩
    | some i=>
     obtain⟨hi,hN⟩:=Pc ho;simp only[ixI];obtain⟨x,y,y0⟩:=P9 hN;obtain⟨xb,xo,F1,xc,xs,e1,gx,fx,lx⟩:=Wb el i hi;cases e1;have fi:=fx i hi;have h0:=(Wb N i hi).mono d;have z0:=Wb hw i hi;have r1:=d.get gx;unfold LineV at h0;rw[y0]at h0;obtain⟨mv,x0,hm⟩:=h0;have hm:SlB X mv<|ny<|rows.getD i []:=hm;have hM:17*c+17<=(ny<|rows.getD i []).length:=by
      unfold ny;rw[List.length_take,List.length_drop,z0];omega
     have l0:=λ(K:Heap) (e:Ext X K)=>U5 (lo:=lo) (H:=K) (b:=b) (n:=k) (c:=c) (x:=x) (y:=y) (by have:=e.1;have:=d.1;omega) ((d.trans e).get hg) (hm.mono e) hM byO byO;rw[x0]at fi;obtain⟨am,cm,rfl⟩:=hm.len;generalize wrM (ny<|rows.getD i []) k c=g at *;generalize (ny<|rows.getD i []).length=lm at *;have p1:lo<=X.length:=by have:=d.1;omega
     clear ho hN y0 x0 hm hM z0 fx gx;replace l0:=Wa l0;refine eD ?_ ?_<;>intro h;rotate_left
     .exfalso;simp at h;try omega
     clear h;refine aF ?_;refine dw ?_;refine iU ?_;refine aB (Wb l0 _<|Ext.app _ _) ?_;rintro r K ⟨r0,rfl⟩;have r0:=r0.of_app;rw[RU];refine aF ?_;exact⟨r0,aH rfl⟩
   .rintro S Y ⟨J,z,rfl⟩
    have u:=J.get u;have m:=J.get m;have a:=a.mono J;have t:W<Y.length:=by have:=J.1;omega
    have d:=d.trans J;cases s:clO rows k c with
    | none=>
     have Q:=Wb Q s;have V:=Wb V s;rw[Q,V];clear P Q U V s;simp only[w10,w11];refine fO ?_;refine aF ?_;refine fC ?_;apply dD (c:=[.int .i64 n]) (a.mono<|Ext.app _ _) (by have:=d.1;simp;omega) byO byO (by rw[ay₀];omega) aI Wc rfl rfl;rintro v' H4 B e0 Z0;have o0:=Ext.app Y [some [Value.int .i64 n]];have k1:=e0.ext (d.trans o0) byO;have u:=e0.get (o0.get u) byO;have m:=e0.get (o0.get m) byO;simp only[as₀,ak₀,an₀]at B Z0;refine aF ?_;exact⟨k1,byO,u,m,v',Y.length+(0+1),by have:=d.1;omega,byO,by rw[List.map_append];exact B,aH ncM⟩
    | some v=>
     have P:=Wb P v s;have U:=Wb U v s;rw[<-P,U];have I:=A6 (f:=wdF rows cols n) (T:=T) (i:=n) (v:=((v:Nat):Int));clear P Q U V s;simp only[w10,w11];have B1:=pa (wdF rows cols n) T;generalize fA (λj=>if j=n then((v:Nat):Int) else wdF rows cols n j) T=D at *;generalize fA (wdF rows cols n) T=C at *;replace I:=Wa I;have q1:lo<=H.length:=b1;refine dw ?_;refine aF ?_;have m1:=d.set (i:=H.length) (x:=some D)<|Nat.le_refl _;have S0:Heap.get (List.set Y H.length<|some D) W=some [.int .i64 k]:=by rw[aQ byO];exact u
     have T0:Heap.get (List.set Y H.length<|some D) H.length=some D:=aE byO;rw[Wb I];exact⟨m1,by simpa using t,S0,T0,_,q,l,F,a.keep (c9 (Ext.refl _) _ _) byO,aH ncM⟩
  rintro S X ⟨d,t,u,m,ev,q,l,F,a,z,rfl⟩;refine aF ?_;exact⟨d,byO,m,ev,q,l,a,aH ncM⟩
 rintro S X ⟨d,hl,m,ev,q,hq,a,z,rfl⟩;rw[Wb a0]at m a;have he:SlI X ev<|erF rows cols T:=Sl.ofOwn a;refine aF ?_;refine bD ?_;exact⟨d,_,_,rfl,Sl.whole (by rw[m,Wb p]) Wc,he⟩
open Go.RS
def zD{H:Heap}{v:Value}{l:XN}(h:Sl qE H v l):SlI H v<|l.map λi:Nat=>(i:Int):=by
 rcases h with ⟨rfl,rfl⟩|⟨b,o,sp,a,xs,c,d,e,f,g⟩
 .exact .inl ⟨rfl,rfl⟩
 .refine .inr ⟨b,o,sp,a,xs,by rw[c];simp,d,?_,Yk,XP⟩
  rw[ay₀,e,List.map_map];rfl
section
variable {lo:Nat}{H0:Heap}{ch sz po r b:Int}{v:Value}{l:XI}
def Q4(h:yh ch sz po r b):∃(f:FD) (_:OkC f) (g:El f) (r' a:Nat),Gn (OkC.ok (f:=f)) g/\CdOK f r' a/\ch=FD.ch f/\sz=f.q/\po=f.poly/\r=r'/\b=a:=by have⟨⟨f,c,d,e,i⟩,m,n,o,p⟩:=h;have k:OkC f:=⟨c⟩;have⟨g,j⟩:=Ny c;have:=qle (f:=f);exact⟨f,k,g,r.toNat,b.toNat,j,⟨byO,byO,byO⟩,i,d,e,byO,byO⟩
end
end
open Go.RS
section
variable {f:FD}[OkC f]
open XUa
def MA{lo:Nat}{H:Heap}{g:El f}{v:Value}{w:List<|El f}{r b R:Nat}{er:Nat->Bool}(Y0:lo<=H.length)(N:Gn (OkC.ok (f:=f)) g)(hc:CdOK f r b)(hw:SlE H v w)(b0:r<w.length)(c0:w.length<f.q)(Y:H.get R=some (erL w.length er))(hk:sC er w.length<=r) :
  Ev cp lo 102 [cdV f r b,v,.slice (some ⟨R,0,none⟩) w.length w.length,.int .i64 (sC er w.length)] H λv H'=>Ext H H'/\(¬ DecOK g r b w er->v=mO 17)/\(DecOK g r b w er->RepOK g r b w er H.length v H'):=by
 have h2:=qle (f:=f);have V:=hc;obtain⟨c1,c2,c3⟩:=hc;have a1:=iR (mF N) (eg N) (n:=w.length) byO;have P:=hw;obtain⟨aw,cw,rfl⟩:=hw.len;have w0:=Heap.get_lt Y;unfold cdV;apply stG rfl rfl;unfold qk;simp only[kB,aC];refine aA ?_;generalize F:H++_=G at *;obtain⟨u,Q⟩:=jX F;have y:G.get (H.length+1)=some [Value.slice none 0 0,Value.slice none 0 0]:=by rw[<-F,bI];rfl
 have p:G.get (H.length+1+1)=some [Value.int .i64 (FD.ch f),Value.int .i64 f.q,Value.int .i64 f.poly]:=by rw[<-F,show H.length+1+1=H.length+2 by rfl,bI];rfl
 clear F;have X0:=Heap.get_lt p;refine ay ?_;apply aB (ur (f:=f) byO N (P.mono Q) byO r b byO byO);rintro v8 H1 ⟨e,C⟩;have u:=e.get u;have y:=e.get y;have p:=e.get p;have e:=Q.trans e;have Z:=e.1;have j0:(ft g r b w).length=r:=aJ _ _;have x0:co (ft g r b w)=syS g r b w:=rfl;refine aA ?_;refine ay ?_;apply aB (Lm (f:=f) (g:=g) (n:=w.length) byO N byO);rintro v H2 ⟨d,b9,s0,rfl,L⟩;have u:=d.get u;have y:=d.get y;have p:=d.get p;have C:=C.mono d;have d:=e.trans d;have y0:=d.1;clear e Z;have T0:=Heap.get_lt L;have j:=C;obtain⟨a8,c8,rfl⟩:=C.len;rw[j0]at j ⊢;generalize hX:plc g w.length=X at *;have q0:=aJ w.length X;refine aA ?_;have hz:[Value.int .i64 1]=elL (tab (sC er 0+1)<|gam X er 0):=rfl;rw[hz];generalize F:H2++_=G3 at *;obtain⟨M,c⟩:=jX F;clear F hz;have u:=c.get u;have y:=c.get y;have p:=c.get p;have L:=c.get L;have j:=j.mono c;have c:=d.trans c;have z0:=c.1;clear d;refine aA ?_;refine aP (λi S H'=>Ext G3 H'/\∃K,H'.get K=some (elL<|tab (sC er i+1)<|gam X er i)/\∃(z:Nat->Value),S=[z 0,.slice aw w.length cw,.slice (some ⟨R,0,none⟩) w.length w.length,.int .i64 (sC er w.length),.pointer<|some ⟨H.length,0,none⟩,.pointer<|some ⟨H.length+1,0,none⟩,.int .i64 0,.pointer<|some ⟨H.length+1+1,0,none⟩,.slice a8 r c8,.slice (some ⟨b9,0,none⟩) w.length w.length,.slice (some ⟨K,0,none⟩) (sC er i+1)<|sC er i+1,.int .i64 i,z 12,z 13,z 14,z 15,z 16,z 17,z 18,z 19,z 20,z 21,z 22,z 23,z 24,z 25,z 26,z 27,z 28,z 29,z 30,z 31,z 32,z 33,z 34,z 35,z 36,z 37,z 38,z 39,z 40,z 41,z 42,z 43,z 44,z 45,z 46,z 47,z 48,z 49,z 50,z 51,z 52,z 53,z 54,z 55,z 56,z 57,z 58]) w.length ?_ ?_ ?_ ?_
 .exact⟨Ext.refl _,_,M,aH rfl⟩
 .rintro i S H' hi ⟨hx,K,D,z,rfl⟩
  exact⟨_,aM,Wc⟩
 .clear M
  rintro i S H4 hi ⟨a,K,D,z,rfl⟩;have H0:=a.1;have u:=a.get u;have y:=a.get y;have p:=a.get p;have L:=a.get L;have Z0:=(c.trans a).get Y;have o:=kJ er i;have m:gam X er (i+1)=if er i=true then cv (lin<|X i) (gam X er i) else gam X er i:=rfl
  have l0:=iK er i;refine aA ?_;cases B:er i with
  | false=>
   rw[B,if_neg Wc]at o m;rw[o,m,Nat.add_zero];clear o m;refine pt ?_;clear B;refine aA ?_;exact⟨a,K,D,aH ncM⟩
  | true=>
   rw[B,if_pos rfl]at o m;rw[o];have o0:(tab w.length X).getD i 0=X i:=fe hi;have a0:cv (co<|tab (sC er i+1)<|gam X er i) (co [1,-X i])=gam X er (i+1):=by rw[Ch,Gd,m,dr]
   have I:=aJ (sC er i+1)<|gam X er i;generalize sC er i=q at *;have W:(((q+1:Nat):Int)+1)=((q+2:Nat):Int):=byO;generalize tab (q+1) (gam X er i)=A at *;clear o m;generalize gam X er (i+1)=L2 at *;refine aK ?_ ?_<;>intro h
   case refine_2=>cases h
   clear h B;refine bV ?_;refine aS (u9 (0:El f)<|X i) ?_;rintro v H5 ⟨t,rfl⟩;rw[p6];have D:=t.get D;have t:=a.trans t;have S0:=t.1;generalize X i=x at *;clear u y p;refine aA ?_;refine ay ?_;have e0:=bO (sp:=none) D I;have h0:SlE (H5++[some [Value.int .i64 1,Value.int .i64 (-x).val]]) (.slice (some ⟨H5.length,0,none⟩) 2 2) [(1:El f),-x]:=bO (l:=[(1:El f),-x]) aI rfl;apply aB (pR Wr (e0.mono<|Ext.app _ _) h0 (by rw[I];omega) Wc (q+2) byO);rintro v H6 ⟨J,b4,r0,rfl,U⟩;have O:min (q+2) (A.length+[(1:El f),-x].length-1)=q+2:=by rw[I];simp
   rw[O]at U ⊢;rw[a0]at U;have J:=t.trans J.of_app;clear W;refine aA ?_;exact⟨J,b4,U,aH ncM⟩
 .rintro S H4 ⟨a,K,D,z,rfl⟩
  have s:=c.trans a;subst hX;refine Lx (f:=f) (g:=g) (aH rfl) byO N V b0 c0 hk (P.mono s) (a.get u) (a.get y) (a.get p) (j.mono a) (a.get L) D (s.get Y) ?_;intro v H' k h1 h3;exact⟨(Keep.ext k s byO),h1,λh=>(h3 h).le byO⟩
end
end Go.Proofs.YtgiojnobcjnibaaGreatDoor
