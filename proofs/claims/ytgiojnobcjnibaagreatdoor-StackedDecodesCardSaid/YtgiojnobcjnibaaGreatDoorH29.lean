/- Lemmas. -/
import Derived.Test.YtgiojnobcjnibaaGreatDoorH28
set_option linter.all false
set_option maxHeartbeats 8000000
set_option maxRecDepth 20000
theorem Xm{P:Prop}(h:P:=by rw[ff];exact Nat.le_refl _):P:=h
namespace Go.Proofs.YtgiojnobcjnibaaGreatDoor
open Go.Abs
section
variable{H:Heap}
def idY(rows:List<|List Bool):Nat->List (Int×Nat)
 | 0=>[]
 | k+1=>match scP (rows.getD k [])with
  | none=>idY rows k
  | some (n,_,_)=>idY rows k++[(n,k)]
def xd(rows:List<|List Bool):∀k,(idY rows k).length<=k
 | 0=>Nat.le_refl _
 | k+1=>by
  have:=xd rows k;grind[idY]
def Cm(rows:List<|List Bool):∀k,∀p ∈ idY rows k,p.2<k
 | 0=>λp h=>by cases h
 | k+1=>λp h=>by
  unfold idY at h;split at h
  .exact Nat.lt_succ_of_lt<|Cm rows k p h
  .rcases List.mem_append.1 h with h|h
   .exact Nat.lt_succ_of_lt<|Cm rows k p h
   simp_all
def recC(rv:Nat->Value)(L:List<|Int×Nat):XV:=L.flatMap λp=>[p.1,rv p.2]
theorem pY(a:Nat->Value):∀L:List<|Int×Nat,(recC a L).length=L.length*2
 | []=>rfl
 | p::L=>by
  show(recC a L).length+1+1=(L.length+1)*2;rw[pY a L];omega
def DT(a:Nat->Value):∀(L:List<|Int×Nat) (k:Nat),k<L.length->(recC a L)[k*2]?=some (.int .i64 (L.getD k (0,0)).1)/\(recC a L)[k*2+1]?=some (a (L.getD k (0,0)).2)
 | [],k,h=>absurd h<|Nat.not_lt_zero _
 | p::L,0,_=>⟨rfl,rfl⟩
 | p::L,k+1,h=>by
  have:=DT a L k Wy;rw[Nat.add_mul];exact this
def RecP(H:Heap)(s:Value)(rows:List<|List Bool)(L:List<|Int×Nat):Prop:=(∃a,s=.slice a L.length L.length)/\∀k,k<L.length->∃b o X v,(∀K,aG (.iAddr 2) [s,k] K=some (.pointer<|some ⟨b,o,none⟩))/\H.get b=some X/\X[o]?=some (.int .i64 (L.getD k (0,0)).1)/\X[o+1]?=some v/\SlB H v (rows.getD (L.getD k (0,0)).2 [])
def Lv{lo b:Nat}{s:Value}{a:Nat->Value}{L:List<|Int×Nat}{rows:List<|List Bool}(h:Own lo 2 H s b<|recC a L)(g:∀y,y<rows.length->SlB H (a y) (rows.getD y []))(f:∀p ∈ L,p.2<rows.length):RecP H s rows L:=by
 obtain⟨_,⟨rfl,d⟩|⟨n,i,d,rfl,e⟩⟩:=h
 .have:=pY a L
  have:L.length=0:=Xu
  exact⟨⟨none,by rw[this]⟩,λk c=>byO⟩
 .rw[pY]at d
  have:n=L.length:=byO;subst this;refine⟨⟨_,rfl⟩,λk c=>?_⟩;have⟨x,y⟩:=DT a L k c;all_goals grind[zl]
theorem Ab:List.replicate 60 (.int .i64 0)=vCC (λ_=>0,λ_=>0):=Wf
def MC{d:Value}{l:List Bool}(e:SlB H d l)(s:86<=l.length):∃f g h i,(∀K,aG (.sl 1 false true false) [d,(17:Int)] K=some f)/\(∀K,aG (.sl 1 true false false) [d,((l.length-18:Nat):Int)] K=some g)/\(∀K,aG (.sl 1 true true false) [d,(17:Int),(34:Int)] K=some h)/\(∀K,aG (.sl 1 true true false) [d,((l.length-35:Nat):Int),((l.length-18:Nat):Int)] K=some i)/\SlB H f (l.take 17)/\SlB H g (l.drop<|l.length-18)/\SlB H h ((l.drop 17).take 17)/\SlB H i ((l.drop<|l.length-35).take 17):=by have⟨f,o,j⟩:=yZ e (n:=17) byO;have⟨g,p,k⟩:=sN e (n:=l.length-18) byO;have⟨h,q,m⟩:=eO e (x:=17) (y:=34) (a:=17) (b:=34) rfl rfl byO byO;have⟨i,r,c⟩:=eO e (x:=((l.length-35:Nat):Int)) (y:=((l.length-18:Nat):Int)) (a:=l.length-35) (b:=l.length-18) rfl rfl byO byO;grind
def nmO:Option (Nat×Nat)->Nat
 | none=>0
 | some x=>rnN x
def OF{o:Option<|Nat×Nat}(a:∀k v,o=some (k,v)->k<9/\k%3=0/\v<=928):∃p r:Nat,(rdN o).tdiv 30=(p:Nat)/\(rdK o).tdiv 3=(r:Nat)/\3*((p:Nat):Int)+((r:Nat):Int)=(nmO o:Nat)/\p<=30/\r<=2/\nmO o<=92:=by
 rcases o with _|⟨k,v⟩
 .exact⟨0,0,rfl,rfl,rfl,Wd,Wd,Wd⟩
 .have⟨b,c,d⟩:=a k v rfl
  exact⟨v/30,k/3,rfl,rfl,by rfl,byO,byO,by show rnN (k,v)<=92;grind[rnN]⟩
def MG{c oB:Option<|Nat×Nat}{n a b:Int}(h:scQ c oB=some (n,a,b)):n=(if c.isNone then nmO oB else nmO c:Nat):=by
 unfold scQ at h;split at h
 .cases h
 .cases h;rfl
 .cases h;rfl
 .split at h
  .cases h;rfl
  .cases h
def RP{V:(Nat->Nat)×(Nat->Nat)}{t n:Nat}{o:Option<|Nat×Nat}(h:∀j,V.1 j<=n/\V.2 j<=n):∀j,(vtR V t o).1 j<=n+1/\(vtR V t o).2 j<=n+1:=by
 have a:=λj=>Nat.le_succ_of_le (h j).1;have b:=λj=>Nat.le_succ_of_le (h j).2;unfold vtR;split
 .simp_all
 .split
  .simp_all[qh]
  .split
   all_goals simp_all[qh]
def Qu(a oB:Option<|Nat×Nat):(scQ a oB).isNone=((a.isNone&&oB.isNone) || (!a.isNone&&!oB.isNone&&decide (((nmO a:Nat):Int)≠((nmO oB:Nat):Int)))):=by
 rcases a with _|x<;>rcases oB with _|y
 .rfl
 .rfl
 .rfl
 .show(if rnN x=rnN y then _ else _:Option<|Int×Int×Int).isNone=decide (((rnN x:Nat):Int)≠((rnN y:Nat):Int))
  grind
def DR(o:Option<|Nat×Nat):decide (rdK o<0)=o.isNone/\decide (rdK o>=0)=!o.isNone:=by
 rcases o with _|⟨k,v⟩
 .exact⟨rfl,rfl⟩
 .exact⟨decide_eq_false (by show ¬ ((k:Nat):Int)<0;omega),decide_eq_true (by show((k:Nat):Int)>=0;omega)⟩
def Hc{a b c d:Option XV}:Ext (H++[a,b,c])<|H++[a,b,c,d]:=by rw[show H++[a,b,c,d]=(H++[a,b,c])++[d] by simp];grind[Ext.app]
namespace XVu
def xtr:=zzi @Int.cast_ofNat_Int<|zzi @ite_self.{1} (zzi @ie<|zzi @kT @jY)
end XVu
open XVu
def P5{lo W U:Nat}{vd:Value}{dk:List Bool}(u2:lo<=H.length)(hd:SlB H vd dk)(R:dk.length=W*U)(h1:86<=W)(h2:W<=4096)(h3:U<=4096)(p2:W*U<=4194304) :
  Ev cpL lo 53 [.agg ⟨tabV⟩,.agg #[.int .i64 W,.int .i64 U,vd]] H λr H'=>Ext H H'/\∃s,r=.tuple #[s,.agg ⟨vCC<|vts (eK W U dk) U⟩]/\RecP H' s (eK W U dk) (idY (eK W U dk) U):=by
 have r1:=hd;obtain⟨ad,c0,rfl⟩:=hd.len;clear hd;have I:=q8 W U dk;have l0:=λy (h:y<U)=>q9 R h;have p1:∀y,∃r,y<U->(∀K,aG (.sl 1 true true false) [.slice ad (W*U) c0,.int .i64 ((y*W:Nat):Int),.int .i64 ((y*W+W:Nat):Int)] K=some r)/\SlB H r ((eK W U dk).getD y []):=by
  intro y;by_cases h:y<U
  .have s0:(y+1)*W<=W*U:=by rw[bb₀ W U];exact Nat.mul_le_mul_right W h
   rw[Nat.add_mul,Nat.one_mul]at s0;obtain⟨r,q1,q2⟩:=eO r1 (a:=y*W) (b:=y*W+W) rfl rfl byO (by rw[R];exact s0);rw[R]at q1;rw[Nat.add_sub_cancel_left,<-ub h]at q2;exact⟨r,λ_=>⟨q1,q2⟩⟩
  .exact⟨undef,λq=>absurd q h⟩
 obtain⟨rv,D⟩:=Classical.skolem.1 p1;clear p1 r1;rw[R];generalize eK W U dk=rows at *;have a0:=yf rows;have Y:=xd rows;have J:=Cm rows;have z0:vts rows 0=(λ_=>0,λ_=>0):=rfl;have i0:recC rv (idY rows 0)=[]:=rfl;have o0:∀k,(scP (rows.getD k [])=none->vts rows (k+1)=vts rows k/\idY rows (k+1)=idY rows k)/\∀n a b,scP (rows.getD k [])=some (n,a,b)->vts rows (k+1)=qg (vts rows k) (some (n,a,b))/\idY rows (k+1)=idY rows k++[(n,k)]:=λk=>
  ⟨λe=>⟨show qg _ (scP _)=_ by rw[e];rfl,by rw[idY,e]⟩,λn a b e=>⟨show qg _ (scP _)=_ by rw[e],by rw[idY,e]⟩⟩
 replace D:=Wa D;replace l0:=Wa l0;replace a0:=Wa a0;replace Y:=Wa Y;replace J:=Wa J;replace o0:=Wa o0;replace I:=Wa I;replace z0:=Wa z0;replace i0:=Wa i0;refine stG rfl rfl ?_;unfold Rh;simp only[kB,aC];refine aF ?_;obtain⟨Z,hZ,r2⟩:∃Z:XV,vCC (λ_=>0,λ_=>0)=Z/\Z.length=60:=⟨_,rfl,ie _⟩;obtain⟨G3,h3⟩:∃G3:Heap,H++[some tabV,some [.int .i64 W,.int .i64 U,.slice ad (W*U) c0],some Z]=G3:=⟨_,rfl⟩;have F1:Ext H G3:=by rw[<-h3];exact Ext.app _ _
 have g2:G3.get H.length=some tabV:=by rw[<-h3];exact aI
 have g3:G3.get (H.length+1)=some [.int .i64 W,.int .i64 U,.slice ad (W*U) c0]:=by rw[<-h3,bI];rfl
 have g5:G3.get (H.length+2)=some Z:=by rw[<-h3,bI];rfl
 have w0:G3.length=H.length+3:=by rw[<-h3];simp
 generalize hG:H++_=G;have j1:Ext G3 G:=by
  rw[<-hG,<-h3,<-hZ,<-Ab];exact Hc
 have A:G.get (H.length+3)=some (vCC<|vts rows 0):=by rw[<-hG,bI,Wb z0,<-Ab];rfl
 have Y0:H.length+3<G.length:=by rw[<-hG];simp
 clear h3 hZ hG z0;replace g5:=Wa g5;replace w0:=Wa w0;refine aP (λk S H'=>Ext G3 H'/\H.length+3<H'.length/\Heap.get H' (H.length+3)=some (vCC<|vts rows k)/\∃ov q,H.length+4<=q/\Own lo 2 H' ov q (recC rv<|idY rows k)/\∃(z:Nat->Value),S=[z 0,z 1,.pointer<|some ⟨H.length,0,none⟩,.pointer<|some ⟨H.length+1,0,none⟩,z 4,.pointer<|some ⟨H.length+2,0,none⟩,ov,.pointer<|some ⟨H.length+3,0,none⟩,.int .i64 k,z 9,z 10,z 11,z 12,z 13,z 14,z 15,z 16,z 17,z 18,z 19,z 20,z 21,z 22,z 23,z 24,z 25,z 26,z 27,z 28,z 29,z 30]) U ?_ ?_ ?_ ?_
 .exact⟨j1,Y0,A,_,H.length+4,Nat.le_refl _,by rw[Wb i0];exact Own.nil byO,aH rfl⟩
 .rintro k S H1 hk ⟨hx,-,-,ov,q,-,-,z,rfl⟩
  have g3:=hx.get g3;exact⟨_,bR,Wc⟩
 .clear j1 Y0 A i0
  rintro k S H1 hk ⟨hx,hl,A,ov,q,hq,d,z,rfl⟩;obtain⟨Y1,g1⟩:=Wb D k hk;have x0:=Wb l0 k hk;obtain⟨v1,v2,v3,v4,q1,q2,q3,q4,s1,s2,s3,s4⟩:=MC (g1.mono<|F1.trans hx) byO;rw[x0]at q2 q4 s2 s4;obtain⟨hn,hs⟩:=Wb o0 k;have w:scP (rows.getD k [])=if (rows.getD k []).take 17=startL/\(rows.getD k []).drop (W-18)=stopL then scQ (rdP<|((rows.getD k []).drop 17).take 17) (rdP<|((rows.getD k []).drop<|W-35).take 17) else none:=by unfold scP;rw[x0]
  have q0:=Wb a0 k;have Y:=Wb Y k;obtain⟨ar,cr,j0⟩:=g1.len;rw[x0]at j0;rw[j0]at q1 q2 q3 q4 Y1;have e1:((k:Nat):Int)*((W:Nat):Int)=((k*W:Nat):Int):=(Int.natCast_mul _ _).symm;have e2:((k*W:Nat):Int)+((W:Nat):Int)=((k*W+W:Nat):Int):=byO;have e5:((W:Nat):Int)-18=((W-18:Nat):Int):=byO;have e6:((W:Nat):Int)-35=((W-35:Nat):Int):=byO;have s0:(k+1)*W<=W*U:=by rw[bb₀ W U];exact Nat.mul_le_mul_right W hk
  rw[Nat.add_mul,Nat.one_mul]at s0;generalize rows.getD k []=l at *;generalize k*W=kW at *;have S0:lo<=H1.length:=byO;have l1:(l.take 17).length<=1000000000:=Wr
  have l2:(l.drop<|W-18).length<=1000000000:=Wr
  have l3:((l.drop 17).take 17).length=17:=Wr
  have l4:((l.drop<|W-35).take 17).length=17:=Wr
  have w3:W-35<=5000/\W-18<=5000:=byO;obtain⟨w3,w4⟩:=w3;generalize l.take 17=m1 at *;generalize l.drop (W-18)=m2 at *;have bA:∀k v,rdP ((l.drop 17).take 17)=some (k,v)->k<9/\k%3=0/\v<=928:=λk v h=>my h;have bB:∀k v,rdP ((l.drop<|W-35).take 17)=some (k,v)->k<9/\k%3=0/\v<=928:=λk v h=>my h;generalize (l.drop 17).take 17=m3 at *;generalize (l.drop<|W-35).take 17=m4 at *;clear g1 x0 l0 o0 a0 D;replace hn:=Wa hn;replace hs:=Wa hs;replace w:=Wa w;replace j0:=Wa j0;replace bA:=Wa bA;replace bB:=Wa bB;replace s3:False\/(_/\_):=.inr ⟨s3,l3⟩;replace s4:False\/(_/\_):=.inr ⟨s4,l4⟩;clear l3 l4;have O:=hx.get g2;have P:=hx.get g3;refine aF ?_;refine fC ?_;refine dz (MD S0) ?_;rintro r K1 ⟨u,T0⟩;have m:=hx.trans u;have A:=u.get A;have d:=d.mono u;have g:=bd₀ hl u.1;have s1:=s1.mono u;have s2:=s2.mono u;have O:=u.get O;have P:=u.get P;refine iU ?_;refine dz ((OL s1 T0 l1 Wd).sub jQ) ?_;rintro r K ⟨rfl,rfl⟩;clear s1 T0;by_cases c1:m1=startL;rotate_left
  .rw[decide_eq_false c1]
   obtain⟨M,N⟩:=Wb hn (by rw[Wb w,if_neg λh=>c1 h.1]);replace M:=Wa M;replace N:=Wa N;(try simp only[aC]);refine aU (t:=false) bR lD vA (λh=>by cases h) λ_=>?_;(try simp only[aC]);refine aU (t:=false) bR lD vA (λh=>by cases h) λ_=>?_;(try simp only[aC]);refine dw ?_;refine aF ?_;exact⟨m,g,by rw[Wb M];exact A,ov,q,hq,by rw[Wb N];exact d,aH ncM⟩
  rw[decide_eq_true c1];(try simp only[aC]);refine aU (t:=true) bR lD vA (λ_=>⟨_,bR,?_⟩) (λh=>by cases h);refine aS (Qp byO) ?_;rintro r K2 ⟨f,X0⟩;have m:=m.trans f;have u:=u.trans f;have A:=f.get A;have d:=d.mono f;have g:=bd₀ g f.1;have s2:=s2.mono f;have O:=f.get O;have P:=f.get P;clear f;(try simp only[aC]);refine aU (t:=true) bR lD vA (λ_=>⟨_,bR,?_⟩) (λh=>by cases h);refine dz ((OL s2 X0 l2 Wd).sub jQ) ?_;rintro r K ⟨rfl,rfl⟩;clear s2 X0;by_cases c2:m2=stopL;rotate_left
  .rw[decide_eq_false c2]
   obtain⟨M,N⟩:=Wb hn (by rw[Wb w,if_neg λh=>c2 h.2]);replace M:=Wa M;replace N:=Wa N;(try simp only[aC]);refine dw ?_;refine aF ?_;exact⟨m,g,by rw[Wb M];exact A,ov,q,hq,by rw[Wb N];exact d,aH ncM⟩
  rw[decide_eq_true c2];have w:=Wb w;rw[if_pos ⟨c1,c2⟩]at w;replace w:=Wa w;clear c1 c2 l1 l2 q1 q2;(try simp only[aC]);refine fO ?_;(try simp only[aC]);have w2:tabV.take 1458=tabV:=List.take_of_length_le (by rw[kT];exact Nat.le_refl _);have b0:=Nat.le_trans S0 u.1;have w1:=(Bk (lo:=lo) b0 ((Wb s3).1.mono u) (Wb s3).2).sub jQ;refine fC ?_;refine dz w1 ?_;rintro r K3 ⟨f,rfl⟩;have y0:=(Bk (lo:=lo) (Nat.le_trans b0 f.1) ((Wb s4).1.mono<|u.trans f) (Wb s4).2).sub jQ;clear w1;have m:=m.trans f;have A:=f.get A;have d:=d.mono f;have g:=bd₀ g f.1;have O:=f.get O;have P:=f.get P;rw[Be];replace y0:=Wa y0;refine aF ?_;refine fC ?_;refine dz (Wb y0) ?_;rintro r K4 ⟨r0,rfl⟩;have m:=m.trans r0;have A:=r0.get A;have d:=d.mono r0;have g:=bd₀ g r0.1;clear y0 s3 s4 q3 q4 O P u f r0 hx b0;rw[Be];obtain⟨pA,rA,a1,a2,a3,a4,a5,a6⟩:=OF<|Wb bA;obtain⟨pB,rB,b1,b2,b3,b4,b5,b6⟩:=OF<|Wb bB;generalize rdP m3=X at *;generalize rdP m4=oB at *;refine aF ?_;have Z0:=Qu X oB;have e0:=λn a b=>@MG X oB n a b;obtain⟨dA,k1⟩:=DR X;obtain⟨dB,o1⟩:=DR oB;generalize X.isNone=x at *;generalize oB.isNone=y at *;generalize hz:decide (((nmO X:Nat):Int)≠((nmO oB:Nat):Int))=z1 at *;clear a1 a2 a3 b1 b2 b3 a4 b4 a5 b5;refine bu (t:=(scQ X oB).isNone) ?_ (λh=>?_) λh=>?_
  .rw[Z0]
   clear Z0 w hn hs e0;cases x<;>cases y<;>cases z1<;>simp only[Bool.not_true,Bool.not_false]at k1 o1<;>(simp(disch:=try exact dO)only[evB,xtr,Nat.reduceAdd,Nat.reduceMul,Nat.reduceBEq,Int.reduceToNat,Int.reduceEq,Int.reduceNe, *];try rfl)
  .obtain⟨M,N⟩:=Wb hn (by rw[Wb w];simpa using h)
   replace M:=Wa M;replace N:=Wa N;clear h;refine aF ?_;exact⟨m,g,by rw[Wb M];exact A,ov,q,hq,by rw[Wb N];exact d,aH ncM⟩
  obtain⟨⟨n,a,b⟩,H0⟩:∃x,scQ X oB=some x:=Option.isSome_iff_exists.1 (by rw[<-Option.not_isNone,h];rfl);have F:=e0 n a b H0;obtain⟨M,N⟩:=Wb hs n a b (by rw[Wb w];exact H0);have A1:=MV (V:=vts rows k) (λk v h=>⟨((Wb bA) k v h).1,((Wb bA) k v h).2.1⟩) (λk v h=>⟨((Wb bB) k v h).1,((Wb bB) k v h).2.1⟩) H0;have g0:=λ(K:Heap) (hK:lo<=K.length)=>(OS (lo:=lo) (H:=K) (V:=vts rows k) (t:=0) hK Wd (Wb bA) λj=>by have:=q0.1 j;have:=q0.2 j;omega).sub jQ;have h0:=λ(K:Heap) (hK:lo<=K.length)=>(OS (lo:=lo) (H:=K) (V:=vtR (vts rows k) 0 X) (t:=1) (o:=oB) hK Wd (Wb bB) λj=>by have:=RP (t:=0) (o:=X) (λj=>⟨q0.1 j,q0.2 j⟩) j;omega).sub jQ;rw[<-A1]at M;clear h Z0 e0 hs w hn H0 A1 bA bB q0 hz;have T1:=ie<|vts rows k;have W1:(vCC<|vts rows k).take 60=vCC (vts rows k):=List.take_of_length_le byO;generalize vts rows k=V at *;generalize vCC V=CV at *;replace M:=Wa M;replace N:=Wa N;replace g0:=Wa g0;replace h0:=Wa h0;replace F:=Wa F;(try simp only[aC]);refine kA (λS H'=>K4=H'/\∃(z:Nat->Value),S=[z 0,z 1,.pointer<|some ⟨H.length,0,none⟩,.pointer<|some ⟨H.length+1,0,none⟩,z 4,.pointer<|some ⟨H.length+2,0,none⟩,ov,.pointer<|some ⟨H.length+3,0,none⟩,.int .i64 k,.slice ar W cr,.int .i64<|rdK X,.int .i64<|rdN X,.int .i64<|rdK oB,.int .i64<|rdN oB,.int .i64 n,z 15,z 16,z 17,z 18,z 19,z 20,z 21,z 22,z 23,z 24,z 25,z 26,z 27,z 28,z 29,z 30]) ?_ ?_
  .have F:=Wb F
   clear g0 h0 M N d;cases x with
   | true=>
    rw[if_pos rfl]at F;subst F;refine dw ?_;refine aF ?_;exact⟨We,aH rfl⟩
   | false=>
    rw[if_neg Wd]at F;subst F;refine fO ?_;(try simp only[aC]);exact⟨We,aH rfl⟩
  rintro S H' ⟨rfl,z,rfl⟩;clear dA k1 dB o1 F;refine iU ?_;refine aB (Wb g0 _ byO) ?_;rintro r K5 ⟨B,rfl⟩;have m:=m.trans B;have A:=B.get A;have d:=d.mono B;have g:=bd₀ g B.1;clear g0 B;refine iU ?_;refine aB (Wb h0 _ byO) ?_;rintro r K6 ⟨B,rfl⟩;have m:=m.trans B;have A:=B.get A;have d:=d.mono B;have g:=bd₀ g B.1;clear h0 B;rw[Wb M];generalize vtR (vtR V 0 X) 1 oB=V2 at *;have o2:=ie V2;have L1:=nn V2;have S1:(Value.agg ⟨vCC V2⟩).cells=⟨vCC V2⟩:=rfl;generalize vCC V2=C2 at *;refine aF ?_;rw[List.drop_eq_nil_of_le byO,List.append_nil];have m:=m.set (i:=H.length+3) (x:=some C2) (by have:=Wb w0;omega);have A:Heap.get (List.set K6 (H.length+3)<|some C2) (H.length+3)=some C2:=aE g;have d:=d.keep (c9 (Ext.refl _) (H.length+3)<|some C2) byO;have g:H.length+3<(List.set K6 (H.length+3)<|some C2).length:=XP
  rw[show K6.length=(List.set K6 (H.length+3)<|some C2).length by simp];generalize List.set K6 (H.length+3) (some C2)=K7 at *;refine fC ?_;refine dD (c:=[.int .i64 n,.slice ar W cr]) (d.mono<|Ext.app _ _) Wr byO byO (by rw[pY];omega) aI Wc rfl rfl ?_;rintro v' H6 Q u1 X1;have G1:=Ext.app K7 [some [Value.int .i64 n,.slice ar W cr]];have Z1:=u1.ext (m.trans G1) (by have:=Wb w0;omega);have A:=u1.get (G1.get A) byO;simp only[as₀,ak₀,an₀]at Q X1;have x1:recC rv (idY rows k)++[.int .i64 n,.slice ar W cr]=recC rv (idY rows<|k+1):=by
   rw[Wb N];unfold recC;rw[List.flatMap_append];simp[Wb j0]
  rw[x1]at Q;clear x1;refine aF ?_;exact⟨Z1,byO,A,v',K7.length+(0+1),byO,Q,aH ncM⟩
 rintro S H1 ⟨hx,hl,A,ov,q,hq,d,z,rfl⟩;have J:=Wb J U;have I:=Wb I;have D:=Wb D;have T1:=ie<|vts rows U;have L1:=nn<|vts rows U;have S1:(Value.agg ⟨vCC<|vts rows U⟩).cells=⟨vCC<|vts rows U⟩:=rfl;have W1:(vCC<|vts rows U).take 60=vCC (vts rows U):=List.take_of_length_le byO;have g5:=hx.get<|Wb g5;have j2:=F1.trans hx;clear a0 Y o0 l0 j1 g2 g3 Y0;generalize vCC (vts rows U)=C at *;generalize idY rows U=L at *;replace J:=Wa J;replace D:=Wa D;replace I:=Wa I;refine aF ?_;rw[List.drop_eq_nil_of_le byO,List.append_nil];have B1:=j2.set (i:=H.length+2) (x:=some C) byO;have k2:Heap.get (List.set H1 (H.length+2)<|some C) (H.length+2)=some C:=aE<|Heap.get_lt g5;have d:=d.keep (c9 (Ext.refl _) (H.length+2)<|some C) byO;generalize List.set H1 (H.length+2) (some C)=K at *;have y1:=Lv (rows:=rows) d (λy hy=>((Wb D y (by have:=Wb I;omega)).2.mono B1)) (λp hp=>by have:=Wb J p hp;have:=Wb I;omega);clear d J D I g5 A;refine bD ?_;exact⟨B1,_,rfl,y1⟩
theorem tp(rows:List<|List Bool)(r:Nat):∀k,(List.range k).find? (λi=>isN (rows.getD i []) r)=((idY rows k).find? λp=>decide<|p.1=((r:Nat):Int)).map Prod.snd
 | 0=>rfl
 | k+1=>by
  rw[List.range_succ,List.find?_append,tp rows r k,idY];grind[isN]
def IC(rows:List<|List Bool):∀k,∀p ∈ idY rows k,∃N:Nat,p.1=(N:Nat)/\N<=92
 | 0=>λp h=>by cases h
 | k+1=>λp h=>by
  rw[idY]at h;cases c:scP (rows.getD k [])with
  | none=>rw[c]at h;exact IC rows k p h
  | some x=>
   rw[c]at h;rcases List.mem_append.1 h with h|h
   .exact IC rows k p h
   grind[OM]
def snR(A:List<|Int×Nat)(r:Nat):Bool:=A.any λp=>decide<|p.1=((r:Nat):Int)
def J2{L:List<|Int×Nat}{i:Nat}(h:i<L.length)(r:Nat):snR (L.take<|i+1) r=(snR (L.take i) r || decide ((L.getD i (0,0)).1=((r:Nat):Int))):=by grind[snR,List.take_add_one]
theorem C9{A:List<|Int×Nat}{r:Nat}(h:snR A r=false):(A.find? λp=>decide<|p.1=((r:Nat):Int))=none:=by grind[snR]
def E0{rows:List<|List Bool}{i r:Nat}(h:i<(idY rows rows.length).length)(b:((idY rows rows.length).getD i (0,0)).1=((r:Nat):Int))(a:snR ((idY rows rows.length).take i) r=false):ixO rows r=some ((idY rows rows.length).getD i (0,0)).2:=by
 unfold ixO;rw[tp];generalize idY rows rows.length=L at *;have e:L=L.take i++L.getD i (0,0)::L.drop (i+1):=by
  simp_all
 grind[C9]
def Kt{rows:List<|List Bool}{r:Nat}(a:snR (idY rows rows.length) r=false):ixO rows r=none:=by unfold ixO;rw[tp,C9 a];rfl
section
variable {α:Type}(d:α)(h:Nat->α)(A:List (Int×Nat))(cols:Nat)
def gR(j:Nat):α:=if snR A (j/cols) then h j else d
def gC(n c j:Nat):α:=if n*cols<=j/\j<n*cols+c then h j else gR d h A cols j
theorem Cf(n:Nat):gC d h A cols n 0=gR d h A cols:=by funext j;unfold gC;rw[if_neg byO]
def BJ(n c:Nat):(λj=>if j=n*cols+c then h (n*cols+c) else gC d h A cols n c j)=gC d h A cols n (c+1):=by
 grind[gC]
def Nx{n c:Nat}(a:c<cols)(b:h (n*cols+c)=d)(f:snR A n=false):gC d h A cols n (c+1)=gC d h A cols n c:=by
 grind[gC,gR]
def Ho{n:Nat}(b:0<cols){B:List<|Int×Nat}(a:∀r,snR B r=(snR A r || decide (((n:Nat):Int)=((r:Nat):Int)))):gC d h A cols n cols=gR d h B cols:=by
 funext j;unfold gC gR;have f:=Nat.div_add_mod j cols;have g:=Nat.mod_lt j b;grind[Nat.div_eq_of_lt_le]
end
def Cg{b:Type}{d:b}{h:Nat->b}{A B:List<|Int×Nat}{cols R T:Nat}(c:T=R*cols)(e:∀r,r<R->snR B r=snR A r){j:Nat}(a:j<T):gR d h B cols j=gR d h A cols j:=by
 grind[Nat.div_lt_of_lt_mul,gR]
def dW(f:Nat->Bool)(T:Nat):XV:=(List.range T).map λi=>.bool<|f i
def p9(f:Nat->Bool)(T:Nat):(dW f T).length=T:=by simp[dW]
theorem A4{f:Nat->Bool}{T i:Nat}{v:Bool}:(dW f T).set i (v)=dW (λj=>if j=i then v else f j) T:=by
 refine List.ext_getElem (by simp[dW]) λj a b=>?_;grind[dW]
def D6{f:Nat->Bool}{T i:Nat}(h:i<T):(dW f T)[i]?=some (.bool<|f i):=by simp[dW,h]
theorem MO(T:Nat):List.replicate T (.bool false)=dW (λ_=>false) T:=by refine List.ext_getElem (by simp[dW]) λj a b=>?_;simp[dW]
theorem MP(T:Nat):fM (List.replicate T 0)=fA (λ_=>0) T:=by unfold fA fM;refine List.ext_getElem Wc λi a b=>?_;simp
def uu{f g:Nat->Int}{T:Nat}(h:∀j,j<T->f j=g j):fA f T=fA g T:=List.map_congr_left λj a=>by simp_all
def lp{f g:Nat->Bool}{T:Nat}(h:∀j,j<T->f j=g j):dW f T=dW g T:=List.map_congr_left λj a=>by simp_all
end
section
def wrO{M:List Bool}{n c:Nat}{o:Option<|Nat×Nat}(h:rdP ((M.drop<|17*c).take 17)=o):(rdK o=((3*(n%3):Nat):Int)/\∃v:Nat,rdN o=(v:Nat)/\wrM M n c=some v)\/(rdK o≠((3*(n%3):Nat):Int)/\wrM M n c=none):=by
 unfold wrM;rw[h];rcases o with _|⟨k,v⟩
 .exact .inr ⟨by show(-1:Int)≠_;omega,rfl⟩
 .by_cases q:k=3*(n%3)
  .exact .inl ⟨by show((k:Nat):Int)=_;omega,v,rfl,Wx⟩
  .exact .inr ⟨by show((k:Nat):Int)≠_;omega,Wx⟩
theorem Ge{l:List Bool}{c:Nat}(h:17*c+17<=l.length-35-34):((ny l).drop<|17*c).take 17=(l.drop<|34+17*c).take 17:=by grind[ny,List.drop_take,List.drop_drop]
theorem ym(T:Nat):im (List.replicate T false)=dW (λ_=>false) T:=by unfold im;rw[List.map_replicate,MO]
namespace XVx
def xtr:=zzi @Int.cast_ofNat_Int<|zzi @ite_self.{1} (zzi @kT<|zzi @jY<|zzi @pa @p9)
end XVx
open XVx
def Gg{lo R cols:Nat}{H:Heap}{s:Value}{rows:List<|List Bool}(T1:lo<=H.length)(hs:RecP H s rows<|idY rows rows.length)(hr:rows.length<=4096)(hR:R<=90)(B1:1<=cols)(hc:cols<=30)(hw:∀i,i<rows.length->(rows.getD i []).length=17*cols+69) :
  Ev cpL lo 55 [.agg ⟨tabV⟩,s,R,cols] H λr H'=>Ext H H'/\∃vw ve,r=.tuple #[vw,ve]/\SlI H' vw ((List.range<|R*cols).map<|wdF rows cols<|R*cols)/\SlI H' ve (erF rows cols<|R*cols):=by
 obtain⟨⟨ar,rfl⟩,g0⟩:=hs;have hT:R*cols<=90*30:=Nat.mul_le_mul hR hc;have eT:((R:Nat):Int)*((cols:Nat):Int)=((R*cols:Nat):Int):=(Int.natCast_mul _ _).symm;have A1:=xd rows rows.length;have a0:=IC rows rows.length;have Z:=Cm rows rows.length;have F:=λi r=>@E0 rows i r;have p:=λr=>@Kt rows r;have w0:∀r c,r<R->c<cols->r*cols+c<R*cols:=λr c h1 h2=>by
  have:=Nat.mul_le_mul_right cols (show r+1<=R by omega);rw[Nat.add_mul]at this;omega
 obtain⟨hW,eW⟩:∃f:Nat->Int,f=λj=>(((clI rows cols j).getD 0:Nat):Int):=⟨_,rfl⟩;obtain⟨Y,eF⟩:∃f:Nat->Bool,f=λj=>(clI rows cols j).isSome:=⟨_,rfl⟩;generalize b0:R*cols=T at *;generalize idY rows rows.length=L at *;replace g0:=Wa g0;replace a0:=Wa a0;replace Z:=Wa Z;replace F:=Wa F;replace p:=Wa p;replace w0:=Wa w0;replace hw:=Wa hw;replace eW:=Wa eW;replace eF:=Wa eF;replace b0:=Wa b0;refine stG rfl rfl ?_;unfold Rj;simp only[kB,aC];refine aF ?_;rw[ym,ym,MP];have b1:Ext (H++[some tabV])<|H++[some tabV,some<|fA (λ_=>0) T,some<|dW (λ_=>false) T,some<|dW (λ_=>false) R]:=by
  rw[show H++[some tabV,some<|fA (λ_=>0) T,some<|dW (λ_=>false) T,some<|dW (λ_=>false) R]=(H++[some tabV])++[some<|fA (λ_=>0) T,some<|dW (λ_=>false) T,some<|dW (λ_=>false) R] by simp];exact Ext.app _ _
 have l:Heap.get (H++[some tabV,some<|fA (λ_=>0) T,some<|dW (λ_=>false) T,some<|dW (λ_=>false) R]) (H.length+1)=some (fA (gR 0 hW (L.take 0) cols) T):=XZ
 have m:Heap.get (H++[some tabV,some<|fA (λ_=>0) T,some<|dW (λ_=>false) T,some<|dW (λ_=>false) R]) (H.length+2)=some (dW (gR false Y (L.take 0) cols) T):=XZ
 have C:Heap.get (H++[some tabV,some<|fA (λ_=>0) T,some<|dW (λ_=>false) T,some<|dW (λ_=>false) R]) (H.length+3)=some (dW (snR<|L.take 0) R):=XZ
 have Y0:H.length+4<=(H++[some tabV,some<|fA (λ_=>0) T,some<|dW (λ_=>false) T,some<|dW (λ_=>false) R]).length:=Wc
 generalize H++[some tabV,some<|fA (λ_=>0) T,some<|dW (λ_=>false) T,some<|dW (λ_=>false) R]=G at *;have z0:=Ext.app H [some tabV];have g4:Heap.get (H++[some tabV]) H.length=some tabV:=aI;have h0:(H++[some tabV]).length=H.length+1:=Wc
 generalize H++[some tabV]=G1 at *;replace h0:=Wa h0;refine aP (λk S H'=>Ext G1 H'/\H.length+4<=H'.length/\Heap.get H' (H.length+1)=some (fA (gR 0 hW (L.take k) cols) T)/\Heap.get H' (H.length+2)=some (dW (gR false Y (L.take k) cols) T)/\Heap.get H' (H.length+3)=some (dW (snR<|L.take k) R)/\∃(z:Nat->Value),S=[z 0,.slice ar L.length L.length,R,cols,.pointer<|some ⟨H.length,0,none⟩,z 5,z 6,.slice (some ⟨H.length+1,0,none⟩) T T,.slice (some ⟨H.length+2,0,none⟩) T T,.slice (some ⟨H.length+3,0,none⟩) R R,k,z 11,z 12,z 13,z 14,z 15,z 16,z 17,z 18,z 19,z 20,z 21,z 22,z 23]) L.length ?_ ?_ ?_ ?_
 .exact⟨b1,Y0,l,m,C,aH rfl⟩
 .rintro k S W hk ⟨-,-,-,-,-,z,rfl⟩
  exact⟨_,bR,Wc⟩
 .clear b1 Y0 l m C p
  rintro k S W hk ⟨t,U,l,m,C,z,rfl⟩;obtain⟨rb,ro,X,rv,K1,gX,x1,x2,hv⟩:=Wb g0 k hk;have q0:=gX;have V:=hv;have gX:=(z0.trans t).get gX;replace q0:=Wa q0;replace hv:=Wa V;clear V;have e:=λr=>@J2 L k hk r;have l0:L.getD k (0,0) ∈ L:=by rw[au₀,bc₀ hk];exact List.getElem_mem hk
  obtain⟨N,hN,r1⟩:=Wb a0 _ l0;have k1:=Wb Z _ l0;have hf:=Wb F k N hk hN;rw[hN]at x1 e;generalize (L.getD k (0,0)).2=y at *;clear l0 g0 a0 Z F hN;have g:(∀r,r<R->snR (L.take<|k+1) r=snR (L.take k) r)->fA (gR 0 hW (L.take<|k+1) cols) T=fA (gR 0 hW (L.take k) cols) T/\dW (gR false Y (L.take<|k+1) cols) T=dW (gR false Y (L.take k) cols) T/\dW (snR<|L.take<|k+1) R=dW (snR<|L.take k) R:=λh=>
   ⟨uu λj hj=>Cg (Wb b0).symm h hj,lp λj hj=>Cg (Wb b0).symm h hj,lp h⟩
  replace e:=Wa e;replace g:=Wa g;replace hf:=Wa hf;by_cases r0:R<=N
  .obtain⟨s1,s2,s3⟩:=Wb g (λr hr=>by rw[Wb e,decide_eq_false byO,Bool.or_false])
   have d:decide (((N:Nat):Int)>=((R:Nat):Int))=true:=decide_eq_true byO;rw[s1,s2,s3];clear s1 s2 s3 r0 x2 hv;refine aF ?_;refine dw ?_;refine aF ?_;exact⟨t,U,l,m,C,aH ncM⟩
  have d:decide (((N:Nat):Int)>=((R:Nat):Int))=false:=decide_eq_false byO;have K:(dW (snR<|L.take k) R)[N]?=some (.bool<|snR (L.take k) N):=D6 byO;cases O:snR (L.take k) N with
  | true=>
   obtain⟨s1,s2,s3⟩:=Wb g (λr hr=>by
    rw[Wb e];by_cases q:r=N
    .rw[q,O];rfl
    .rw[decide_eq_false byO,Bool.or_false])
   rw[s1,s2,s3];rw[O]at K;clear s1 s2 s3 x2 hv;have r0:N<R:=byO;refine aF ?_;refine dw ?_;refine aF ?_;exact⟨t,U,l,m,C,aH ncM⟩
  | false=>
  have hf:=Wb hf O;rw[O]at K;clear g;have r0:N<R:=byO;have y0:(dW (snR<|L.take k) R).set N (true)=dW (snR<|L.take<|k+1) R:=by
   rw[A4];refine lp λr hr=>?_;rw[Wb e];by_cases q:r=N
   .rw[if_pos q,q,decide_eq_true rfl,Bool.or_true]
   .rw[if_neg q,decide_eq_false byO,Bool.or_false]
  have a7:=Ho (0:Int) hW (L.take k) cols (n:=N) byO (B:=L.take<|k+1)<|Wb e;have a8:=Ho false Y (L.take k) cols (n:=N) byO (B:=L.take<|k+1)<|Wb e;rw[<-Cf 0 hW (L.take k) cols N]at l;rw[<-Cf false Y (L.take k) cols N]at m;rw[<-a7,<-a8];have p1:=p9 (snR<|L.take k) R;have Q:∀c,clO rows N c=wrM (ny<|rows.getD y []) N c:=λc=>by unfold clO;rw[hf]
  have P:=Wb hw y k1;have s0:=λc h=>Wb w0 N c r0 h;have p7:=λc=>BJ (0:Int) hW (L.take k) cols N c;have p8:=λc=>BJ false Y (L.take k) cols N c;have n7:=λc h h2=>Nx (0:Int) hW (L.take k) cols (n:=N) (c:=c) h h2 O;have n8:=λc h h2=>Nx false Y (L.take k) cols (n:=N) (c:=c) h h2 O;clear a7 a8 hf e k1 O;generalize gC (0:Int) hW (L.take k) cols N=F7 at *;generalize gC false Y (L.take k) cols N=F8 at *;generalize dW (snR<|L.take<|k+1) R=E9 at *;generalize dW (snR<|L.take k) R=D9 at *;replace Q:=Wa Q;replace P:=Wa P;replace s0:=Wa s0;replace p7:=Wa p7;replace p8:=Wa p8;replace n7:=Wa n7;replace n8:=Wa n8;replace y0:=Wa y0;refine aF ?_;refine fO ?_;refine aF ?_;rw[Wb y0];have t:=t.set (i:=H.length+3) (x:=some E9) (by have:=Wb h0;omega);have l:Heap.get (List.set W (H.length+3)<|some E9) (H.length+1)=some (fA (F7 0) T):=by rw[aQ byO];exact l
  have m:Heap.get (List.set W (H.length+3)<|some E9) (H.length+2)=some (dW (F8 0) T):=by rw[aQ byO];exact m
  have C:Heap.get (List.set W (H.length+3)<|some E9) (H.length+3)=some E9:=aE byO;have U:H.length+4<=(List.set W (H.length+3)<|some E9).length:=by simpa using U
  clear gX;clear y0 K p1 d;generalize List.set W (H.length+3) (some E9)=H2 at *;refine aP (λc S H'=>Ext G1 H'/\H.length+4<=H'.length/\Heap.get H' (H.length+1)=some (fA (F7 c) T)/\Heap.get H' (H.length+2)=some (dW (F8 c) T)/\Heap.get H' (H.length+3)=some E9/\∃(z:Nat->Value),S=[z 0,.slice ar L.length L.length,R,cols,.pointer<|some ⟨H.length,0,none⟩,z 5,z 6,.slice (some ⟨H.length+1,0,none⟩) T T,.slice (some ⟨H.length+2,0,none⟩) T T,.slice (some ⟨H.length+3,0,none⟩) R R,k,N,c,z 13,z 14,z 15,z 16,z 17,z 18,z 19,z 20,z 21,z 22,z 23]) cols ?_ ?_ ?_ ?_
  .exact⟨t,U,l,m,C,aH rfl⟩
  .rintro c S H' c0 ⟨-,-,-,-,-,z,rfl⟩
   exact⟨_,bR,Wc⟩
  .clear t U l m C
   rintro c S H3 c0 ⟨t,U,l,m,C,z,rfl⟩;have gX:=(z0.trans t).get<|Wb q0;have m1:=t.get g4;have V:=(Wb hv).mono<|z0.trans t;have P:=Wb P;obtain⟨sv,q1,Z0⟩:=eO V (x:=34+17*((c:Nat):Int)) (y:=51+17*((c:Nat):Int)) (a:=34+17*c) (b:=51+17*c) byO byO byO byO;rw[show 51+17*c-(34+17*c)=17 by omega,<-Ge byO]at Z0;obtain⟨av,cv,T0⟩:=V.len;rw[P]at T0;subst T0;have S0:(((ny<|rows.getD y []).drop<|17*c).take 17).length=17:=by unfold ny;rw[List.length_take,List.length_drop,List.length_take,List.length_drop,P];omega
   have x0:=(Bk (lo:=lo) byO Z0 S0).sub jQ;have X0:=wrO (n:=N) (c:=c) (M:=ny<|rows.getD y []) rfl;have u:clI rows cols (N*cols+c)=wrM (ny<|rows.getD y []) N c:=by rw[GZ c0,Wb Q]
   have L1:=Wb s0 c c0;have t7:=λv=>@A6 (F7 c) T (N*cols+c) v;have t8:=λv=>@A4 (F8 c) T (N*cols+c) v;have u7:=Wb p7 c;have u8:=Wb p8 c;have m7:=Wb n7 c c0;have m8:=Wb n8 c c0;clear p7 p8 n7 n8;rw[show hW (N*cols+c)=(((clI rows cols<|N*cols+c).getD 0:Nat):Int) by rw[Wb eW]]at u7 m7;rw[show Y (N*cols+c)=(clI rows cols<|N*cols+c).isSome by rw[Wb eF]]at u8 m8;rw[u]at u7 u8 m7 m8;have eN:((N:Nat):Int)*((cols:Nat):Int)=((N*cols:Nat):Int):=(Int.natCast_mul _ _).symm;have ej:((N*cols:Nat):Int)+((c:Nat):Int)=((N*cols+c:Nat):Int):=byO;have e3:((N:Nat):Int).tmod 3=((N%3:Nat):Int):=rfl;have e4:(3:Int)*((N%3:Nat):Int)=((3*(N%3):Nat):Int):=byO;have W1:N%3<=2:=byO;generalize rdP (((ny<|rows.getD y []).drop<|17*c).take 17)=o at *;generalize wrM (ny<|rows.getD y []) N c=w at *;generalize N*cols+c=j0 at *;have X1:N*cols<=100000:=by have:=Nat.mul_le_mul r1 hc;omega
   generalize N*cols=nc at *;generalize N%3=mm at *;generalize j1:3*mm=w3 at *;have z1:=pa (F7 c) T;have o1:=p9 (F8 c) T;have S1:j0<=100000:=byO;clear Q V Z0 S0 u s0 hv q0 P;replace x0:=Wa x0;replace t7:=Wa t7;replace t8:=Wa t8;replace u7:=Wa u7;replace u8:=Wa u8;replace m7:=Wa m7;replace m8:=Wa m8;replace X0:=Wa X0;replace j1:=Wa j1;refine iU ?_;refine dz (Wb x0) ?_;rintro r H4 ⟨J,rfl⟩;have t:=t.trans J;have l:=J.get l;have m:=J.get m;have C:=J.get C;have U:=Nat.le_trans U J.1;clear J x0 gX m1;rw[Be];rcases Wb X0 with ⟨c1,v,c2,c3⟩|⟨c1,c2⟩
   .have d:=decide_eq_true c1
    have u7:=Wb u7;have u8:=Wb u8;rw[c3]at u7 u8;have t7:=(Wb t7 ((v:Nat):Int)).trans<|congrArg (λf=>fA f T) u7;have t8:=(Wb t8 true).trans<|congrArg (λf=>dW f T) u8;rw[c2];clear c1 c2 c3 m7 m8 u7 u8;generalize fA (F7 c) T=D7 at *;generalize fA (F7<|c+1) T=E7 at *;generalize dW (F8 c) T=D8 at *;generalize dW (F8<|c+1) T=E8 at *;replace t7:=Wa t7;replace t8:=Wa t8;refine aF ?_;refine dw ?_;refine aF ?_;rw[Wb t7,Wb t8];have h0:=Wb h0;refine⟨(t.set (i:=H.length+1) (x:=some E7) byO).set (i:=H.length+2) (x:=some E8) byO,by simpa using U,?_,?_,?_,aH ncM⟩
    .rw[aQ byO,aE byO]
    .rw[aE Wr]
    .rw[aQ byO,aQ byO];exact C
   .have d:=decide_eq_false c1
    have m7:=Wb m7 (by rw[c2];rfl);have m8:=Wb m8 (by rw[c2];rfl);rw[m7,m8];clear c1 c2 m7 m8 u7 u8 t7 t8;refine aF ?_;refine fO ?_;refine aF ?_;exact⟨t,U,l,m,C,aH ncM⟩
  rintro S H3 ⟨t,U,l,m,C,z,rfl⟩;refine aF ?_;exact⟨t,U,l,m,C,aH ncM⟩
 rintro S W ⟨t,U,l,m,C,z,rfl⟩;rw[List.take_length]at l m;have e1:fA (gR 0 hW L cols) T=fA (wdF rows cols T) T:=uu λj hj=>by
  unfold gR wdF;rw[if_pos hj,Wb eW];cases q:snR L (j/cols)with
  | true=>rfl
  | false=>
   have:clI rows cols j=none:=by unfold clI clO;rw[Wb p _ q]
   rw[this];rfl
 have g1:dW (gR false Y L cols) T=dW (λj=>(clI rows cols j).isSome) T:=lp λj hj=>by
  unfold gR;rw[Wb eF];cases q:snR L (j/cols)with
  | true=>rfl
  | false=>
   have:clI rows cols j=none:=by unfold clI clO;rw[Wb p _ q]
   rw[this];rfl
 rw[e1]at l;rw[g1]at m;have H0:fA (wdF rows cols T) T=((List.range T).map<|wdF rows cols T).map (Value.int .i64):=by
  unfold fA;rw[List.map_map];rfl
 have K:=λi (h:i<T)=>D6 (f:=λj=>(clI rows cols j).isSome) h;have o1:=p9 (λj=>(clI rows cols j).isSome) T;rw[H0]at l;clear e1 g1 H0 g0 p a0 Z F eW eF C hw w0 b1 Y0 g4 b0;have ew:=λk v=>@zF rows cols k v;have en:=λk=>@zE rows cols k;have el:=λk=>pF rows cols k;have e0:erF rows cols 0=[]:=rfl;replace K:=Wa K;replace ew:=Wa ew;replace en:=Wa en;replace el:=Wa el;replace e0:=Wa e0;generalize dW (λj=>(clI rows cols j).isSome) T=D at *;refine aF ?_;have h7:Sl (Value.int .i64) W (.slice (some ⟨H.length+1,0,none⟩) T T)<|(List.range T).map<|wdF rows cols T:=Sl.whole l Wc;have F1:T<=2700:=byO;clear l;refine aP (λk S H'=>Ext W H'/\∃ev q,W.length<=q/\Own lo 1 H' ev q ((erF rows cols k).map<|Value.int .i64)/\∃(z:Nat->Value),S=[z 0,z 1,z 2,z 3,z 4,z 5,z 6,.slice (some ⟨H.length+1,0,none⟩) T T,.slice (some ⟨H.length+2,0,none⟩) T T,z 9,z 10,z 11,z 12,z 13,z 14,ev,k,z 17,z 18,z 19,z 20,z 21,z 22,z 23]) T ?_ ?_ ?_ ?_
 .exact⟨Ext.refl _,_,W.length,Nat.le_refl _,by rw[Wb e0];exact Own.nil byO,aH rfl⟩
 .rintro k S H' hk ⟨-,ev,q,-,-,z,rfl⟩
  exact⟨_,bR,Wc⟩
 .clear h7
  rintro k S H2 hk ⟨A,ev,q,hq,I,z,rfl⟩;have m:=A.get m;have fk:=Wb K k hk;have ew:=Wb ew k;have en:=Wb en k;have el:=Wb el k;have y1:lo<=H2.length:=by have:=A.1;omega
  cases u:clI rows cols k with
  | none=>
   rw[u]at fk;rw[en u];clear ew en u;replace fk:D[k]?=some (false):=fk;(try simp only[aC]);refine dw ?_;refine aF ?_;refine fC ?_;refine dD (c:=[k]) (I.mono<|Ext.app _ _) Wr byO byO (by rw[ay₀];omega) aI Wc rfl rfl ?_;rintro v' H4 o0 u1 w1;have a1:=Ext.app H2 [some [k]];have J:=u1.ext (A.trans a1) hq;simp only[as₀,ak₀,an₀]at o0 w1;refine aF ?_;exact⟨J,v',H2.length+(0+1),by have:=A.1;omega,by rw[List.map_append];exact o0,aH ncM⟩
  | some v=>
   rw[u]at fk;rw[ew v u];clear ew en u;replace fk:D[k]?=some (true):=fk;(try simp only[aC]);refine fO ?_;refine aF ?_;exact⟨A,ev,q,hq,I,aH ncM⟩
 rintro S H2 ⟨A,ev,q,hq,I,z,rfl⟩;have he:SlI H2 ev<|erF rows cols T:=Sl.ofOwn I;have h7:=h7.mono A;have a1:=z0.trans<|t.trans A;clear A t I;refine aF ?_;refine bD ?_;exact⟨a1,_,_,rfl,h7,he⟩
end
theorem RecP.mono{H H':Heap}{s:Value}{rows:List<|List Bool}{L:List<|Int×Nat}(h:RecP H s rows L)(e:Ext H H'):RecP H' s rows L:=⟨h.1,λk i=>by
 have⟨b,o,X,v,a,c,d,f,g⟩:=h.2 k i;exact⟨b,o,X,v,a,e.get c,d,f,g.mono e⟩⟩
def cnV(E l w:XI)(k:Nat):Nat:=E.length+((List.range k).filter λi=>decide (l.getD i 0≠w.getD i 0)&&!E.contains ((i:Nat):Int)).length
def On(E l w:XI)(k:Nat):cnV E l w k<=E.length+k:=by grind[cnV]
def Gb(E l w:XI)(k:Nat):cnV E l w (k+1)=cnV E l w k+if (decide (l.getD k 0≠w.getD k 0)&&!E.contains ((k:Nat):Int))=true then 1 else 0:=by
 grind[cnV,List.range_succ]
def KG(E l w:XI):cnV E l w w.length=E.length+((dfL l w).filter λx=>!E.contains x).length:=by simp_all[cnV,dfL,List.filter_map,Bool.and_comm]
section
variable {lo:Nat}{H:Heap}{vd:Value}{dk:List Bool}{w u k1:Int}{l1 m1:XI}
namespace XVy
def xtr:=zzi @Int.cast_ofNat_Int<|zzi @ite_self.{1} (zzi @sP<|zzi @Di<|zzi @kT @jY)
end XVy
open XVy
def Nr(hd:SlB H vd dk)(C:lo<=H.length)
  (hR:∀R L:Nat,shP (vts (eK w.toNat u.toNat dk) u.toNat) ((w-69).tdiv 17).toNat=some (R,L)->(k1=0->l1.length=R*((w-69).tdiv 17).toNat/\m1=dfL l1 ((List.range<|R*((w-69).tdiv 17).toNat).map<|wdF (eK w.toNat u.toNat dk) ((w-69).tdiv 17).toNat<|R*((w-69).tdiv 17).toNat))/\∀(H:Heap) (v ve:Value),lo<=H.length->SlI H v ((List.range<|R*((w-69).tdiv 17).toNat).map<|wdF (eK w.toNat u.toNat dk) ((w-69).tdiv 17).toNat<|R*((w-69).tdiv 17).toNat)->SlI H ve (erF (eK w.toNat u.toNat dk) ((w-69).tdiv 17).toNat<|R*((w-69).tdiv 17).toNat)->Ev cp lo 56 [cdI 929 929 0 (2^(L+1):Nat) 1,v,ve] H λv H'=>Ext H H'/\Ff H' v l1 m1 k1) :
  Ev cpL lo 21 [.agg #[.int .i64 w,.int .i64 u,vd]] H λr H'=>Ext H H'/\∃v,r=.tuple #[v,.int .i64 (lM w u dk l1 m1 k1).2.1,.int .i64 (lM w u dk l1 m1 k1).1]/\Sl bT H' v (lM w u dk l1 m1 k1).2.2:=by
 have g2:=hd;obtain⟨ad,c0,rfl⟩:=hd.len;have F1:=λ(K:Heap) (hx:Ext H K)=>(L3 (lo:=lo) (g2.mono hx) (w:=w) (u:=u)).sub jQ;obtain⟨D,e⟩:∃D,lM w u dk l1 m1 k1=D:=⟨_,rfl⟩;rw[e];replace e:=Wa e;replace F1:=Wa F1;replace hR:=Wa hR;clear hd;refine stG rfl rfl ?_;unfold R6;simp only[kB,aC];refine aF ?_;have h0:=Ext.app H [some [.int .i64 w,.int .i64 u,.slice ad dk.length c0]];have gm:Heap.get (H++[some [.int .i64 w,.int .i64 u,.slice ad dk.length c0]]) H.length=some [.int .i64 w,.int .i64 u,.slice ad dk.length c0]:=aI;generalize H++[some [.int .i64 w,.int .i64 u,.slice ad dk.length c0]]=G at *;refine fC ?_;refine aB (Wb F1 _ h0) ?_;rintro r K ⟨I,rfl⟩;have gm:=I.get gm;have I:=h0.trans I;clear F1 h0;cases hv:vdM w u dk.length with
 | false=>
  have e:=Wb e;unfold lM at e;rw[if_pos hv]at e;subst e;(try simp only[aC]);refine dw ?_;refine aF ?_;refine bD ?_;exact⟨I,_,rfl,.inl ⟨rfl,rfl⟩⟩
 | true=>
 have e:=Wb e;unfold lM at e;rw[if_neg (by rw[hv];decide)]at e;obtain⟨h1,h2,h3,h4,h5,h6⟩:=of_decide_eq_true hv;clear hv;obtain⟨W,rfl⟩:=Int.eq_ofNat_of_zero_le (show 0<=w by omega);obtain⟨U,rfl⟩:=Int.eq_ofNat_of_zero_le (show 0<=u by omega);have s0:dk.length=W*U:=by rw[<-Int.natCast_mul]at h6;omega
 have W2:W*U<=4194304:=by rw[<-Int.natCast_mul]at h5;omega
 clear h5 h6;simp only[Int.toNat_natCast]at e hR;obtain⟨q1,q2⟩:=OP (W:=W) byO;have Y2:=No (W:=W);generalize hq:(((W:Nat):Int)-69).tdiv 17=q at *;generalize ht:((W:Nat):Int).tmod 17=tm at *;replace e:=Wa e;(try simp only[aC]);refine fO ?_;rcases Y2 with ⟨c,c1,c2,c3,rfl,c4⟩|⟨cb,T2⟩;rotate_left
 .have e:=Wb e
  rw[if_pos cb]at e;subst e;clear T2 hR;refine aF ?_;refine eD ?_ ?_<;>intro h;rotate_left
  .exfalso;simp at h;omega
  clear h cb;refine aF ?_;refine bD ?_;exact⟨I,_,rfl,.inl ⟨rfl,rfl⟩⟩
 replace c3:False\/W=17*c+69:=.inr c3;have e:=Wb e;rw[if_neg c4]at e;simp only[Int.toNat_natCast]at e hR;replace c4:=Wa c4;replace e:=Wa e;refine aF ?_;refine eD ?_ ?_<;>intro h
 .have c4:=Wb c4;exfalso;simp at h;omega
 clear h hq ht c4;have O:=I.1;have T1:lo<=K.length:=byO;have B2:=g2.mono I;have F3:tabV.take 1458=tabV:=List.take_of_length_le (by rw[kT];exact Nat.le_refl _);have g3:86<=W:=by have:=Wb c3;omega
 refine iU ?_;refine aB ((U4 T1).sub jQ) ?_;rintro r K2 ⟨rfl,G1⟩;have p3:=Ii;have q3:(Value.agg ⟨tabV⟩).cells=⟨tabV⟩:=rfl;have gm:=G1.get gm;have w0:=I.trans G1;have C2:=B2.mono G1;clear G1 I B2 T1 O;have F2:lo<=K2.length:=Nat.le_trans C w0.1;refine aF ?_;have K1:=Ext.app K2 [some tabV];have gt:Heap.get (K2++[some tabV]) K2.length=some tabV:=aI;have x3:H.length<=K2.length:=w0.1;have m2:=w0.trans K1;have gm:=K1.get gm;have S0:=P5 (lo:=lo) (Nat.le_trans C m2.1) (C2.mono K1) s0 g3 byO byO W2;rw[s0]at S0;have x0:=q8 W U dk;have A1:=λy (h:y<U)=>q9 s0 h;have T0:=yf<|eK W U dk;generalize eK W U dk=rows at *;generalize K2++[some tabV]=K3 at *;generalize K2.length=b6 at *;replace S0:=Wa S0;replace x0:=Wa x0;replace A1:=Wa A1;replace T0:=Wa T0;clear K1 w0 C2 g2 F2;refine fC ?_;refine aB (Wb S0) ?_;rintro r K4 ⟨q0,s,rfl,f⟩;have gt:=q0.get gt;have q0:=m2.trans q0;obtain⟨⟨Q2,rfl⟩,-⟩:=id f;have z2:∀j,(vts rows U).1 j<=100000:=λj=>by have:=(Wb T0 U).1 j;omega
 have A2:∀j,(vts rows U).2 j<=100000:=λj=>by have:=(Wb T0 U).2 j;omega
 clear S0 m2 T0 gm s0;have w3:=ie<|vts rows U;have r3:=nn<|vts rows U;have v3:(Value.agg ⟨vCC<|vts rows U⟩).cells=⟨vCC<|vts rows U⟩:=rfl;have s3:(vCC<|vts rows U).take 30=vC (vts rows U).1:=by unfold vCC;rw[List.take_append_of_le_length Xm,List.take_of_length_le Xm]
 have u3:((vCC<|vts rows U).drop 30).take 30=vC (vts rows U).2:=by unfold vCC;rw[List.drop_append_of_le_length Xm,List.drop_of_length_le Xm,List.nil_append,List.take_of_length_le Xm]
 have o0:=λ(K:Heap) (h:lo<=K.length)=>(Nz (lo:=lo) h z2).sub jQ;have z1:=λ(K:Heap) (h:lo<=K.length)=>(Nz (lo:=lo) h A2).sub jQ;have Z0:=rW (vts rows U).1 30<|Nat.le_refl _;have k2:=rW (vts rows U).2 30<|Nat.le_refl _;have g:shP (vts rows U) c=if 0<(vts rows U).1 (wn (vts rows U).1 30)/\0<(vts rows U).2 (wn (vts rows U).2 30)/\3<=3*wn (vts rows U).1 30+wn (vts rows U).2 30%3+1/\wn (vts rows U).2 30/3<=8/\2^(wn (vts rows U).2 30/3+1)<(3*wn (vts rows U).1 30+wn (vts rows U).2 30%3+1)*c/\(3*wn (vts rows U).1 30+wn (vts rows U).2 30%3+1)*c<=928 then some (3*wn (vts rows U).1 30+wn (vts rows U).2 30%3+1,wn (vts rows U).2 30/3) else none:=rfl
 generalize vts rows U=V at *;replace g:=Wa g;replace o0:=Wa o0;replace z1:=Wa z1;clear z2 A2;generalize vC V.1=CA at *;generalize vC V.2=CB at *;generalize vCC V=CV at *;generalize V.1 (wn V.1 30)=e1 at *;generalize V.2 (wn V.2 30)=e2 at *;generalize wn V.1 30=p at *;generalize wn V.2 30=x at *;refine aF ?_;generalize hG:K4++_=G5;have o2:Ext K4 G5:=Xh
 obtain⟨Z,g8,hZ⟩:∃Z,G5.get K4.length=some Z/\Z.length=60:=by rw[<-hG];exact⟨_,aI,rfl⟩
 clear hG;have y3:H.length<=K4.length:=q0.1;have h0:=q0.trans o2;refine aF ?_;rw[List.drop_eq_nil_of_le byO,List.append_nil];have r0:=o2.set (i:=K4.length) (x:=some CV)<|Nat.le_refl _;have g8:Heap.get (List.set G5 K4.length<|some CV) K4.length=some CV:=aE<|Heap.get_lt g8;have gt:=r0.get gt;have f:=f.mono r0;have r0:=q0.trans r0;clear o2 h0 q0;generalize List.set G5 K4.length (some CV)=K5 at *;generalize K4.length=b8 at *;have W1:lo<=K5.length:=Nat.le_trans C r0.1;replace f:=Wa f;clear hZ;refine fC ?_;refine aS (Wb o0 _ W1) ?_;rintro r K6 ⟨A,rfl⟩;have f:=Wa<|(Wb f).mono A;have gt:=A.get gt;have p2:=r0.trans A;have X1:lo<=K6.length:=Nat.le_trans C p2.1;clear A r0 W1 g8 o0;refine iU ?_;refine dz (Wb z1 _ X1) ?_;rintro r K7 ⟨A,rfl⟩;have f:=Wa<|(Wb f).mono A;have gt:=A.get gt;have e0:=p2.trans A;have X0:lo<=K7.length:=Nat.le_trans C e0.1;clear A p2 X1 z1;refine aF ?_;refine eD ?_ ?_<;>intro h
 .have Y0:¬ (0<e1/\0<e2):=by
   rintro⟨y1,y2⟩;rw[if_pos y1,if_pos y2]at h;simp at h;omega
  have e:=Wb e;rw[Wb g,if_neg λq=>Y0 ⟨q.1,q.2.1⟩]at e;simp only at e;subst e;clear h Y0 hR;refine aF ?_;refine bD ?_;exact⟨e0,_,rfl,.inl ⟨rfl,rfl⟩⟩
 have j3:0<e1/\0<e2:=by
  by_cases y1:0<e1<;>by_cases y2:0<e2
  .exact⟨y1,y2⟩
  .rw[if_neg y2]at h;simp at h
  .rw[if_neg y1]at h;simp at h
  .rw[if_neg y1]at h;simp at h
 obtain⟨y1,y2⟩:=j3;rw[if_pos y1,if_pos y2];clear h;have t3:((x:Nat):Int).tmod 3=((x%3:Nat):Int):=rfl;have d3:((x:Nat):Int).tdiv 3=((x/3:Nat):Int):=rfl;have z3:x%3<3:=Nat.mod_lt _ Wd;have A3:x/3<=30:=byO;have eR:3*((p:Nat):Int)+((x%3:Nat):Int)+1=((3*p+x%3+1:Nat):Int):=byO;have u2:3*p+x%3+1<=90:=byO;generalize 3*p+x%3+1=R at *;generalize x%3=m at *;generalize x/3=L at *;have eT:((R:Nat):Int)*((c:Nat):Int)=((R*c:Nat):Int):=(Int.natCast_mul _ _).symm;have hY:R*c<=90*30:=Nat.mul_le_mul u2 c2;have B:=λ(K:Heap) (h:lo<=K.length) (q:L<=8)=>Qe (lo:=lo) (H:=K) (L:=L) h q;have X:=λ(h:L<=8)=>Nat.pow_le_pow_right (show 0<2 by decide) (show L+1<=9 by omega);have l:=λ(K:Heap) (hx:Ext K7 K)=>Gg (lo:=lo) (H:=K) (R:=R) (cols:=c) (rows:=rows) (s:=.slice Q2 (idY rows U).length (idY rows U).length) (Nat.le_trans X0 hx.1) (by rw[Wb x0];exact(Wb f).mono hx) (by rw[Wb x0];omega) u2 c1 c2 (by rw[Wb x0];exact λi hi=>by rw[Wb A1 i hi];exact Wb c3);replace l:=Wa l;replace B:=Wa B;replace X:=Wa X;clear c3 A1 x0;refine aF ?_;by_cases b1:R<3
 .have d1:=decide_eq_true (show((R:Nat):Int)<3 by omega)
  have e:=Wb e;rw[Wb g,if_neg byO]at e;simp only at e;subst e;clear l B X hR g gt f;refine aF ?_;refine aU bR lD bR (λh=>by simp at h) λh=>?_;clear h;(try simp only[aC]);refine dw ?_;refine aF ?_;refine bD ?_;exact⟨e0,_,rfl,.inl ⟨rfl,rfl⟩⟩
 have d1:=decide_eq_false (show ¬ ((R:Nat):Int)<3 by omega);by_cases b2:8<L
 .have d2:=decide_eq_true (show((L:Nat):Int)>8 by omega)
  have e:=Wb e;rw[Wb g,if_neg byO]at e;simp only at e;subst e;clear l B X hR g gt f;refine aF ?_;refine aU bR lD bR (λh=>by simp at h) λh=>?_;clear h;(try simp only[aC]);refine dw ?_;refine aF ?_;refine bD ?_;exact⟨e0,_,rfl,.inl ⟨rfl,rfl⟩⟩
 have d2:=decide_eq_false (show ¬ ((L:Nat):Int)>8 by omega);by_cases b3:928<R*c
 .have d3:=decide_eq_true (show((R*c:Nat):Int)>928 by omega)
  have e:=Wb e;rw[Wb g,if_neg byO]at e;simp only at e;subst e;clear l B X hR g gt f;refine aF ?_;refine aU bR lD bR (λh=>by simp at h) λh=>?_;clear h;(try simp only[aC]);refine dw ?_;refine aF ?_;refine bD ?_;exact⟨e0,_,rfl,.inl ⟨rfl,rfl⟩⟩
 have d3:=decide_eq_false (show ¬ ((R*c:Nat):Int)>928 by omega);have X:=Wb X byO;rw[show 2^9=512 from rfl]at X;have H0:=λh=>Wb hR R L h;generalize u1:R*c=T at *;generalize o1:2^(L+1)=P at *;replace o1:=Wa o1;replace H0:=Wa H0;replace u1:=Wa u1;refine aF ?_;refine aU bR lD bR (λh=>⟨_,bR,?_⟩) (λh=>by simp at h);clear h;refine aB (Wb B _ X0 byO) ?_;rintro r K8 ⟨g0,rfl⟩;unfold cdI;(try simp only[aC]);refine eD ?_ ?_<;>intro h
 .have Y0:¬ P<T:=Ws
  have e:=Wb e;rw[Wb g,if_neg λq=>Y0 q.2.2.2.2.1]at e;simp only at e;subst e;clear l B hR H0 g gt f h Y0;refine aF ?_;refine bD ?_;exact⟨e0.trans g0,_,rfl,.inl ⟨rfl,rfl⟩⟩
 have V2:P<T:=Ws
 clear h;have j2:shP V c=some (R,L):=by rw[Wb g,if_pos ⟨y1,y2,byO,byO,V2,byO⟩]
 have e:=Wb e;rw[j2]at e;simp only[Wb u1,Wb o1]at e;obtain⟨O,r1⟩:=Wb H0 j2;have l:=Wb l K8 g0;have gt:=g0.get gt;have g0:=e0.trans g0;have G2:lo<=K8.length:=Nat.le_trans C g0.1;clear j2 g H0 hR f e0 X0 y1 y2 d1 d2 d3 t3 u1 o1;have m3:=pF rows c T;have x2:((List.range T).map<|wdF rows c T).length=T:=Wc
 generalize erF rows c T=ER at *;generalize (List.range T).map (wdF rows c T)=WL at *;replace e:=Wa e;replace r1:=Wa r1;replace l:=Wa l;replace O:=Wa O;refine iU ?_;refine aB (Wb l) ?_;rintro r K9 ⟨A,vw,ve,rfl,b0,a0⟩;have r2:=g0.trans A;have Y1:lo<=K9.length:=Nat.le_trans C r2.1;clear A g0 G2 gt l;refine aF ?_;refine fC ?_;refine aB (Wb B _ Y1 byO) ?_;rintro r KA ⟨J,rfl⟩;have b0:=b0.mono J;have a0:=a0.mono J;have g1:=r2.trans J;have Z1:lo<=KA.length:=Nat.le_trans C g1.1;have p1:=(Wb r1 KA vw ve Z1 b0 a0).sub jQ;clear J r2 Y1 r1;unfold cdI at *;replace p1:=Wa p1;refine iU ?_;refine aB (Wb p1) ?_;rintro r KB ⟨J,w1,w2,rfl,Z0,k2⟩;clear p1;have b0:=b0.mono J;have a0:=a0.mono J;have g1:=g1.trans J;have Z1:lo<=KB.length:=Nat.le_trans C g1.1;clear J;have N:=λk (hk:k<l1.length)=>Z0.els 0 byO;have j0:=λk (hk:k<WL.length)=>b0.els 0 byO;have o:=λ(b:Nat) (h1:1<=b) (h2:b<=l1.length)=>eO Z0 (a:=1) (b:=b) (x:=1) (y:=b) rfl rfl h1 h2;have F:=λ(K:Heap) (hx:Ext KB K) (x:Int)=>(MX (lo:=lo) (H:=K) (x:=x) (a0.mono hx) byO).sub jQ;obtain⟨a1,n1,rfl⟩:=Z0.len;obtain⟨a2,n2,rfl⟩:=k2.len;obtain⟨a3,n3,rfl⟩:=b0.len;obtain⟨a4,n4,rfl⟩:=a0.len;replace N:=Wa N;replace j0:=Wa j0;replace o:=Wa o;replace F:=Wa F;clear Z0 k2 b0 a0;refine aF ?_;have y0:=Ext.app KB [some [.slice a1 l1.length n1,.slice a2 m1.length n2]];have l0:Heap.get (KB++[some [.slice a1 l1.length n1,.slice a2 m1.length n2]]) KB.length=some [.slice a1 l1.length n1,.slice a2 m1.length n2]:=aI;have j1:=g1.trans y0;generalize KB++[some [.slice a1 l1.length n1,.slice a2 m1.length n2]]=KC at *;generalize KB.length=S2 at *;have H2:lo<=KC.length:=Nat.le_trans C j1.1;have F:=Wb F KC y0;replace F:=Wa F;refine eD ?_ ?_<;>intro h
 .have hk:k1≠0:=Wy
  have e:=Wb e;unfold Gx at e;rw[if_pos hk]at e;subst e;clear h hk N j0 o F l0 O;refine aF ?_;refine bD ?_;exact⟨j1,_,rfl,.inl ⟨rfl,rfl⟩⟩
 have hk:k1=0:=Wy
 have e:=Wb e;unfold Gx at e;rw[if_neg λq=>q hk]at e;obtain⟨O,o0⟩:=Wb O hk;clear h hk;have c0:cnV ER l1 WL 0=ER.length:=rfl;have cS:=Gb ER l1 WL;have cL:=On ER l1 WL;have cA:=KG ER l1 WL;rw[<-o0,x2]at cA;rw[<-cA]at e;rw[O]at N o l0;rw[x2]at j0;replace e:=Wa e;replace cS:=Wa cS;replace cL:=Wa cL;clear cA o0;refine aF ?_;refine aP (λk S H'=>KC=H'/\∃(z:Nat->Value),S=[z 0,z 1,z 2,z 3,z 4,.int .i64 c,z 6,z 7,z 8,z 9,z 10,.int .i64 R,.int .i64 L,.slice a3 T n3,.slice a4 ER.length n4,.pointer<|some ⟨S2,0,none⟩,z 16,.int .i64 (cnV ER l1 WL k),.int .i64 k,z 19,z 20,z 21,z 22,z 23,z 24,z 25,z 26,z 27,z 28,z 29,z 30,z 31,z 32,z 33,z 34,z 35,z 36,z 37,z 38,z 39,z 40,z 41,z 42,z 43,z 44]) T ?_ ?_ ?_ ?_
 .exact⟨rfl,aH (by rw[c0];rfl)⟩
 .rintro k S H' hk ⟨rfl,z,rfl⟩
  exact⟨_,bR,Wc⟩
 .clear c0 e o
  rintro k S H' hk ⟨rfl,z,rfl⟩;obtain⟨xb,xo,k3,xc,xs,e1,gx,fx,lx⟩:=Wb N k byO;cases e1;have fk:=fx k byO;have gx:=y0.get gx;obtain⟨yb,yo,G3,yc,ys,e1,gy,fy,ly⟩:=Wb j0 k byO;cases e1;have fl:=fy k byO;have gy:=y0.get gy;have cs:=Wb cS k;have cl:=Wb cL k;have hb:=Wb F ((k:Nat):Int);rw[cs];clear fx fy cS cL F N j0 cs;generalize cnV ER l1 WL k=n at *;generalize l1.getD k 0=x at *;generalize WL.getD k 0=y at *;replace hb:=Wa hb;by_cases q:x=y
  .have d:decide (x≠y)=false:=decide_eq_false λh=>h q
   rw[d,Bool.false_and,if_neg Wd];clear q hb;(try simp only[aC]);refine aU (t:=false) bR lD vA (λh=>by cases h) λ_=>?_;(try simp only[aC]);refine fO ?_;refine aF ?_;exact⟨We,aH ncM⟩
  .have d:decide (x≠y)=true:=decide_eq_true q
   rw[d,Bool.true_and];clear q;(try simp only[aC]);refine aU (t:=true) bR lD vA (λ_=>⟨_,bR,?_⟩) (λh=>by cases h);refine dz (Wb hb) ?_;rintro r K' ⟨rfl,rfl⟩;clear hb;cases ER.contains ((k:Nat):Int)with
   | false=>
    rw[if_pos Wd];(try simp only[aC]);refine dw ?_;refine aF ?_;exact⟨We,aH ncM⟩
   | true=>
    rw[if_neg Wd];(try simp only[aC]);refine fO ?_;refine aF ?_;exact⟨We,aH ncM⟩
 rintro S H' ⟨rfl,z,rfl⟩;obtain⟨xb,xo,k3,xc,xs,e1,gx,fx,lx⟩:=Wb N 0 byO;cases e1;have f0:=fx 0 byO;rw[Nat.add_zero]at f0;have o3:0<T:=byO;have gx:=y0.get gx;have cl:=Wb cL T;clear N fx j0 F cS cL c0;generalize cnV ER l1 WL T=cn at *;generalize l1.getD 0 0=y at *;by_cases z0:y<1
 .have d1:decide (y<1)=true:=decide_eq_true z0
  have e:=Wb e;rw[if_pos<|.inl z0]at e;subst e;clear o B;refine aF ?_;refine aU bR lD bR (λh=>by simp[z0]at h) λh=>?_;clear h z0 gx l0;(try simp only[aC]);refine dw ?_;refine aF ?_;refine bD ?_;exact⟨j1,_,rfl,.inl ⟨rfl,rfl⟩⟩
 obtain⟨Y,rfl⟩:=Int.eq_ofNat_of_zero_le (show 0<=y by omega);have X2:1<=Y:=byO;have d1:decide (((Y:Nat):Int)<1)=false:=decide_eq_false z0;clear z0;refine aF ?_;refine aU bR lD bR (λh=>⟨_,bR,?_⟩) (λh=>by simp at h);clear h;refine aB (Wb B _ H2 byO) ?_;rintro r KE ⟨S1,rfl⟩;have l0:=S1.get l0;have L1:=j1.trans S1;have M2:=y0.trans S1;have L2:lo<=KE.length:=Nat.le_trans C L1.1;clear B gx f0 j1 S1;have e5:((T:Nat):Int)-((P:Nat):Int)=((T-P:Nat):Int):=byO;(try simp only[aC]);refine eD ?_ ?_<;>intro h
 .have hY:T-P<Y:=Ws
  have e:=Wb e;rw[if_pos<|.inr byO]at e;subst e;clear o h l0;refine aF ?_;refine bD ?_;exact⟨L1,_,rfl,.inl ⟨rfl,rfl⟩⟩
 have hY:Y<=T-P:=Ws
 have e:=Wb e;rw[if_neg byO]at e;rw[Int.toNat_natCast]at e;clear h e5;obtain⟨sv,e3,B1⟩:=Wb o Y X2 byO;have B1:=B1.mono M2;generalize (l1.drop 1).take (Y-1)=M at *;have x1:=(Iy L2 B1).sub jQ;clear o B1;generalize yw M=Q at *;obtain⟨pl,er⟩:=Q;replace x1:=Wa x1;replace e:=Wa e;refine iU ?_;refine aB (Wb x1) ?_;rintro r KF ⟨N2,v,rfl,Z2⟩;clear x1 e3 l0;have h0:=L1.trans N2;clear N2 L1 M2;refine aF ?_;refine eD ?_ ?_<;>intro h
 .have he:er≠0:=Ws
  have e:=Wb e;rw[if_pos he]at e;subst e;clear h he;refine aF ?_;refine bD ?_;exact⟨h0,_,rfl,.inl ⟨rfl,rfl⟩⟩
 have he:er=0:=Ws
 have e:=Wb e;rw[if_neg λq=>q he]at e;clear h he;subst e;refine aF ?_;refine bD ?_;exact⟨h0,_,rfl,Z2⟩
end
def KP(a l:XI):(dfL a l).length<=l.length:=by grind[dfL]
def HA(w u:Int)(dk:List Bool):∃l1 d c,∀(lo:Nat) (H:Heap) (j:Value),lo<=H.length->SlB H j dk ->
  (H.get 0=some jG->Ev cpL lo 20 [.agg #[w,u,j]] H λr H'=>Ext H H'/\∃v,r=.tuple #[v,.int .i64 (lM w u dk l1 d c).2.1,.int .i64 (lM w u dk l1 d c).1]/\Sl bT H' v (lM w u dk l1 d c).2.2) /\
  Ev cpL lo 21 [.agg #[w,u,j]] H λr H'=>Ext H H'/\∃v,r=.tuple #[v,.int .i64 (lM w u dk l1 d c).2.1,.int .i64 (lM w u dk l1 d c).1]/\Sl bT H' v (lM w u dk l1 d c).2.2:=by
 cases i:shP (vts (eK w.toNat u.toNat dk) u.toNat) ((w-69).tdiv 17).toNat with
 | none=>exact⟨[],[],0,λlo H j a g=>⟨λk=>Nq g a k (λ_=>by simp) (λR L h=>by rw[i]at h;cases h),Nr g a λR L h=>by rw[i]at h;cases h⟩⟩
 | some p=>
  have⟨R,L⟩:=p;have⟨z,A,B,C,D⟩:=ON i;have y:=pF (eK w.toNat u.toNat dk) ((w-69).tdiv 17).toNat<|R*((w-69).tdiv 17).toNat;have⟨l1,d,c,n,t,x⟩:=HB (ch:=929) (sz:=929) (po:=0) (r:=(2^(L+1):Nat)) (b:=1) (l:=(List.range<|R*((w-69).tdiv 17).toNat).map<|wdF (eK w.toNat u.toNat dk) ((w-69).tdiv 17).toNat<|R*((w-69).tdiv 17).toNat) (e:=erF (eK w.toNat u.toNat dk) ((w-69).tdiv 17).toNat<|R*((w-69).tdiv 17).toNat) Wd Wd Wr byO;rw[ay₀,List.length_range]at n;have f:c=0->l1.length=R*((w-69).tdiv 17).toNat/\d=dfL l1 ((List.range<|R*((w-69).tdiv 17).toNat).map<|wdF (eK w.toNat u.toNat dk) ((w-69).tdiv 17).toNat<|R*((w-69).tdiv 17).toNat):=λq=>by
   rcases n with h|h
   .exact h.2
   .exact absurd q h
  refine⟨l1,d,c,λlo H j a g=>⟨λk=>Nq g a k (λq=>?_) λs o h=>?_,Nr g a λs o h=>?_⟩⟩
  .rw[(f q).2]
   have:=KP l1<|(List.range<|R*((w-69).tdiv 17).toNat).map<|wdF (eK w.toNat u.toNat dk) ((w-69).tdiv 17).toNat<|R*((w-69).tdiv 17).toNat;rw[ay₀,List.length_range]at this;omega
  .rw[i]at h
   cases h;exact⟨λq=>(f q).1,λH v m=>t lo H v m⟩
  .rw[i]at h
   cases h;exact⟨f,λH v m=>x lo H v m⟩
def Cv{H:Heap}{v:Value}{l:XU}(h:Sl bT H v l):aG .b2s [v] H=some (eI l):=by
 rcases h with ⟨rfl,rfl⟩|⟨b,o,sp,a,xs,rfl,c,d,e,f,g⟩
 .rfl
 grind[aG,cells_get,qC]
open XCSb
def Kx{H:Heap}{q:Value}{dk:List Bool}{w u:Int}(m:SlB H q dk)(z:H.get 0=some jG):Ev cpL H.length 6 [.agg #[.int .i64 w,.int .i64 u,q]] H λr _=>r=.bool true:=by
 have⟨l1,C,B,d⟩:=HA w u dk;have f:=m;obtain⟨j,k,rfl⟩:=m.len;generalize lM w u dk l1 C B=D at *;have⟨e,n,p⟩:=D;replace d:=Wa d;apply stG rfl rfl;unfold bd6;simp[kB,aC];refine aF ?_;have c:=Ext.app H [some [.int .i64 w,.int .i64 u,.slice j dk.length k]];have l:Heap.get (H++[some [.int .i64 w,.int .i64 u,.slice j dk.length k]]) H.length=some [.int .i64 w,.int .i64 u,.slice j dk.length k]:=aI;generalize H++[some [.int .i64 w,.int .i64 u,.slice j dk.length k]]=G at *;refine eD ?_ ?_<;>intro h
 .clear h
  refine iU ?_;apply aB ((Fl c.1).sub wu);rintro r K ⟨a,rfl⟩;refine aF ?_;refine bD ?_;rfl
 refine iU ?_;apply aB ((Wb d H.length G _ c.1<|f.mono c).1<|c.get z);rintro r K ⟨a,I,rfl,g⟩;have l:=a.get l;have a:=c.trans a;refine aF ?_;refine fC ?_;apply aB (Wb d H.length K _ a.1<|f.mono a).2;rintro r s ⟨b,J,rfl,i⟩;have v:=Cv<|g.mono b;have x:=Cv i;have o:=a.trans b;simp only at v x;have y:aG (.bin .eql) [eI p,eI p] s=some (.bool true):=by rw[I1,decide_eq_true rfl]
 refine aF ?_;refine aU (t:=true) bR lD vA (λ_=>⟨_,bR,?_⟩) (λh=>by cases h);apply aB ((Fl o.1).sub wu);rintro r F ⟨A,rfl⟩;refine aF ?_;refine bD ?_;rfl
end Go.Proofs.YtgiojnobcjnibaaGreatDoor
