/- Lemmas. -/
import Derived.Test.YtgiojnobcjnibaaGreatDoorH10
import Derived.Test.YtgiojnobcjnibaaGreatDoorH19
set_option linter.all false
set_option maxRecDepth 20000
def Xb{P:Prop}(h:P:=by unfold cf50;simp(disch:=try exact dO)only[evB,xtr,Nat.reduceAdd,Nat.reduceBEq,Int.reduceToNat, *];rfl):P:=h
def Xz{P:Prop}(h:P:=by rw[Int.tmod_eq_emod_of_nonneg byO];rfl):P:=h
namespace Go.Proofs.YtgiojnobcjnibaaGreatDoor
open Go.Abs
variable{H:Heap}{lo:Nat}{v:Value}
def CN{cp:Wl}{lo j:Nat}{mid rest:Stm}{res:List E}{R:Wq}{S:XV}{vs:XV}(h:evList S H res=some vs)(k:R (aR vs) H):yl cp lo mid j rest res R .ret S H:=by
 grind[yl,AI]
def DW{res:List E}{R:Wq}{S:XV}{vs:XV}(h:evList S H res=some vs)(k:R (aR vs) H):AI res R S H:=by
 grind[AI]
def okD(w:Int):Bool:=decide (0<=w)&&decide (w<=928)
theorem CY(l:XI):yw l=if 8192<l.length then([],4) else if l.all okD then ea (l.length+1) (l.map Int.toNat) 0 0 [] else([],3):=rfl
theorem DE{l:XI}{i:Nat}(a:i<l.length)(h:okD (l.getD i 0)=false):l.all okD=false:=Xu
def CE{l:XI}(h:∀j,j<l.length->okD (l.getD j 0)=true):l.all okD=true:=by grind[List.getElem_of_mem]
def Fh(H:Heap)(r:Value)(q:XU×Nat):Prop:=∃v,r=.tuple #[v,q.2]/\Sl bT H v q.1
open XCSg
def KN{l:XI}(r1:lo<=H.length)(R:SlI H v l)(ht:H.get 0=some jG) :
  Ev cpx lo 50 [v] H λr H'=>Ext H H'/\Fh H' r (yw l):=by
 have T0:=R;obtain⟨o,q,rfl⟩:=R.len;rw[CY];apply W6;unfold O5;simp only[kB,aC];refine aA ?_;have g:Ext H<|H++[some [Value.slice none 0 0],some [.int .i64 0]]:=Ext.app _ _;have L:Heap.get (H++[some [Value.slice none 0 0],some [.int .i64 0]]) H.length=some [Value.slice none 0 0]:=aI;have M:Heap.get (H++[some [Value.slice none 0 0],some [.int .i64 0]]) (H.length+1)=some [.int .i64 0]:=XZ
 have N:(H++[some [Value.slice none 0 0],some [.int .i64 0]]).length=H.length+2:=Wc
 generalize H++[some [Value.slice none 0 0],some [.int .i64 0]]=G at *;refine aK ?_ ?_<;>intro h
 .have hc:8192<l.length:=Wt
  clear h;rw[if_pos hc];refine aA ?_;apply CN Xb;exact⟨(g.set<|Nat.le_refl _).set byO,_,rfl,.inl ⟨rfl,rfl⟩⟩
 have hc:l.length<=8192:=Wu
 clear h;rw[if_neg byO];refine aA ?_;apply aP (λi S H'=>G=H'/\(∀j,j<i->okD (l.getD j 0)=true)/\∃(z:Nat->Value),S=[.slice o l.length q,.pointer<|some ⟨H.length,0,none⟩,.pointer<|some ⟨H.length+1,0,none⟩,z 3,z 4,.slice o l.length q,.int .i64 l.length,.int .i64 i,z 8,z 9]) l.length
 .exact⟨rfl,λj hj=>byO,aH rfl⟩
 .rintro i S H' hi ⟨rfl,-,z,rfl⟩
  exact⟨_,aM,Wc⟩
 .rintro i S H' hi ⟨rfl,c,z,rfl⟩
  obtain⟨b0,o0,w1,g1,x1,e0,S0,s0,a0⟩:=(R.mono g).els 0 byO;cases e0;have e1:=s0 i hi;refine aA ?_;refine aK ?_ ?_<;>intro h
  .have y:okD (l.getD i 0)=false:=by
    simp only[ar₀,af₀]at h;simp only[okD,Bool.and_eq_false_iff,ai₀];omega
   clear h;rw[DE hi y];clear S0 s0 e1 a0;refine aA ?_;refine CN Xb ?_;exact⟨(g.set<|Nat.le_refl _).set byO,_,rfl,.inl ⟨rfl,rfl⟩⟩
  .have y0:okD (l.getD i 0)=true:=by
    simp only[Bool.or_eq_false_iff,ai₀]at h;simp only[okD,ac₀,af₀];omega
   clear h;refine aA ?_;refine⟨We,λj hj=>?_,aH ncM⟩;by_cases e:j=i
   .subst e;exact y0
   .exact c j byO
 .rintro S H' ⟨rfl,c,z,rfl⟩
  have c:=CE c;rw[c];have I:=List.all_eq_true.1 c;have hr:∀w ∈ l,0<=w/\w<=928:=λw hw=>by
   have:=I w hw;simpa only[okD,ac₀,af₀]using this
  have V:∀w ∈ l.map Int.toNat,w<=928:=λw hw=>by
   obtain⟨x,J,rfl⟩:=List.mem_map.1 hw;have:=hr x J;omega
  have l0:=Bo R λw hw=>(hr w hw).1;have O:l.length=(l.map Int.toNat).length:=Wc
  rw[if_pos rfl];generalize l.map Int.toNat=ws at *;rw[O]at l0 hc;rw[O];clear O c I hr R T0;(try simp only[aC]);simp only[yl];unfold QM;simp only[kB,aC];refine aA ?_;simp only[QN,List.getElem?_cons_succ,List.getElem?_cons_zero];unfold Qq;simp only[kB,aC];have b:bh lo (.st 5) [.pointer<|some ⟨H.length+2,0,none⟩,.agg #[Value.slice o ws.length q,.int .i64 0,.int .i64 0,.int .i64 0,.slice none 0 0]] (G++[some [Value.slice none 0 0,.int .i64 0,.int .i64 0,.int .i64 0,.slice none 0 0]])=some (undef,G++[some [Value.slice o ws.length q,.int .i64 0,.int .i64 0,.int .i64 0,.slice none 0 0]]):=by
   have u:Heap.get (G++[some [Value.slice none 0 0,.int .i64 0,.int .i64 0,.int .i64 0,.slice none 0 0]]) (H.length+2)=some [Value.slice none 0 0,.int .i64 0,.int .i64 0,.int .i64 0,.slice none 0 0]:=by rw[<-N];exact aI
   simp only[bh,hsem];rw[if_pos (by exact⟨rfl,rfl⟩)];show Option.map _ (Heap.put lo _ (H.length+2) 0 [Value.slice o ws.length q,.int .i64 0,.int .i64 0,.int .i64 0,.slice none 0 0])=_;rw[nf u byO Wc];simp[putCells,<-N]
  refine aA ?_;clear b;have x0:=Ext.app G [some [Value.slice o ws.length q,.int .i64 0,.int .i64 0,.int .i64 0,.slice none 0 0]];have Z:Heap.get (G++[some [Value.slice o ws.length q,.int .i64 0,.int .i64 0,.int .i64 0,.slice none 0 0]]) (H.length+2)=some [Value.slice o ws.length q,.int .i64 0,.int .i64 0,.int .i64 0,.slice none 0 0]:=by rw[<-N];exact aI
  have b:DecSt G lo (G++[some [Value.slice o ws.length q,.int .i64 0,.int .i64 0,.int .i64 0,.slice none 0 0]]) (H.length+2) (Value.slice o ws.length q) 0 0 0 []:=⟨x0,byO,byO,_,H.length+3,byO,byO,Z,byO,.inl ⟨rfl,rfl⟩⟩;generalize G++[some [Value.slice o ws.length q,.int .i64 0,.int .i64 0,.int .i64 0,.slice none 0 0]]=D at *;have q0:=l0.mono g;have Z0:=g.get ht;have j1:H.length<G.length:=byO;have F:∀(n:Nat) (pos sub a:Nat) (d:XU),pos=ws.length->0<n->ea n (ws.drop pos) sub a d=(d,0):=by
   intro n pos sub a d h1 h2;obtain⟨n,rfl⟩:∃m,n=m+1:=⟨n-1,byO⟩;rw[List.drop_eq_nil_of_le byO,ea]
  refine aj (λm S H'=>∃n pos sub a d,m+pos=ws.length/\ws.length+1<=n+pos/\sub<4/\a<3/\d.length<=44*pos/\(False\/ea (ws.length+1) ws 0 0 []=ea n (ws.drop pos) sub a d)/\DecSt G lo H' (H.length+2) (Value.slice o ws.length q) pos sub a d/\∃(z:Nat->Value),S=[.slice o ws.length q,.pointer<|some ⟨H.length,0,none⟩,.pointer<|some ⟨H.length+1,0,none⟩,z 3,.pointer<|some ⟨H.length+2,0,none⟩,z 5,z 6,z 7,z 8,z 9]) ws.length ?_ ?_
  .exact⟨ws.length+1,0,0,0,[],byO,byO,byO,byO,Wc,.inr rfl,b,aH rfl⟩
  clear b x0 Z;rintro m S H' ⟨n,pos,sub,a,d,hm,hn,Q,U,s,X,b,z,rfl⟩;obtain⟨J,hb,p1,ov,bo,m1,u1,u,ho,j0⟩:=b.far 5;have W:=Heap.get_lt u;have w0:=J.1;(try simp only[aC]);refine aK ?_ ?_<;>intro h
  .have P:pos<ws.length:=Wt
   clear h;(try simp only[aC]);refine jf aM dY aM (TN byO b q0 P byO V Q U s Z0) ?_ ?_
   .rintro r B ⟨K,H0,A,z0,r0,h1,h2,h3,h4,h5,h6⟩
    obtain⟨n,rfl⟩:∃k,n=k+1:=⟨n-1,byO⟩;(try simp only[aC]);simp only[bJ];refine⟨ws.length-K,byO,n,K,H0,A,z0,byO,byO,h3,h4,h5,.inr ?_,r0,aH rfl⟩;rw[Wb X,h6 n]
   .rintro p B ⟨t,e,rfl,he,y⟩
    obtain⟨n,rfl⟩:∃k,n=k+1:=⟨n-1,byO⟩;rw[Wb X,y n];have q1:=t.get L;have q2:=t.get M;have k1:=t.1;have a1:=g.trans t;clear b X ho u y hm hn s Q U j0 L M J w0 W t;simp only[fH,dt,dE (show 3<999999 by decide),dE (show 2<999999 by decide)];refine⟨rfl,?_⟩;refine⟨_,4,rfl,rfl,rfl,?_⟩;unfold Ob Aj;simp only[kB,aC];have g0:lo<=B.length:=byO;have b:bh lo (.st 1) [.pointer<|some ⟨B.length,0,none⟩,.agg #[.int .i64 e]] (B++[some [.int .i64 0]])=some (undef,B++[some [.int .i64 e]]):=by
     have u:Heap.get (B++[some [.int .i64 0]]) B.length=some [.int .i64 0]:=aI;simp only[bh,hsem];rw[if_pos (by exact⟨rfl,rfl⟩)];show Option.map _ (Heap.put lo _ B.length 0 [Value.int .i64 e])=_;rw[nf u g0 Wc];simp[putCells]
    refine aA ?_;apply vN rfl aM dY aM b aM;refine aA ?_;refine aK ?_ ?_<;>intro h
    .refine aA ?_
     refine rp aM aM (by right;simp[aT];try omega) ?_;(try simp only[aC]);refine DW Xb ?_;exact⟨((a1.set<|Nat.le_refl _).set byO).trans<|Ext.app _ _,_,rfl,.inl ⟨rfl,rfl⟩⟩
    .simp at h
  .have P:pos=ws.length:=Wu
   clear h;rw[Wb X,F n pos sub a d P byO];obtain⟨C,f,Y0,_⟩:=ho.len byO;subst Y0;have q1:=J.get L;have q2:=J.get M;clear X hm hn Q U s b F;refine aA ?_;have X0:Own lo 1 ((List.set H' H.length<|some [Value.slice C f f]).set (H.length+1)<|some [Value.int .i64 0]) (.slice C f f) bo<|d.map bT:=gK (gK ho byO) byO;have y1:Heap.get ((List.set H' H.length<|some [Value.slice C f f]).set (H.length+1)<|some [Value.int .i64 0]) H.length=some [Value.slice C f f]:=by rw[aQ byO,aE byO]
   have y2:Heap.get ((List.set H' H.length<|some [Value.slice C f f]).set (H.length+1)<|some [Value.int .i64 0]) (H.length+1)=some [Value.int .i64 0]:=by rw[aE Wr]
   have b1:Ext H<|(List.set H' H.length<|some [Value.slice C f f]).set (H.length+1)<|some [Value.int .i64 0]:=((g.trans J).set<|Nat.le_refl _).set byO;have o1:H.length+2<((List.set H' H.length<|some [Value.slice C f f]).set (H.length+1)<|some [Value.int .i64 0]).length:=Wr
   generalize (List.set H' H.length<|some [Value.slice C f f]).set (H.length+1) (some [Value.int .i64 0])=Y at *;clear ho u q1 q2 j0 W w0 J;refine⟨_,4,rfl,rfl,rfl,?_⟩;unfold Ob;simp only[kB,aC];have h0:lo<=Y.length:=byO;have b:bh lo (.st 1) [.pointer<|some ⟨Y.length,0,none⟩,.agg #[.int .i64 0]] (Y++[some [.int .i64 0]])=some (undef,Y++[some [.int .i64 0]]):=by
    have u:Heap.get (Y++[some [.int .i64 0]]) Y.length=some [.int .i64 0]:=aI;simp only[bh,hsem];rw[if_pos (by exact⟨rfl,rfl⟩)];show Option.map _ (Heap.put lo _ Y.length 0 [Value.int .i64 0])=_;rw[nf u h0 Wc];simp[putCells]
   refine aA ?_;refine vN rfl aM dY aM b aM ?_;refine aA ?_;refine aK ?_ ?_<;>intro h
   .simp at h
   (try simp only[aC]);refine DW Xb ?_;exact⟨b1.trans<|Ext.app _ _,_,rfl,Sl.ofOwn<|X0.mono<|Ext.app _ _⟩
def TI{N j:Nat}(a:j<6):(N:Int).fdiv (2^min (8*(5-(j:Int))).toNat IntKind.i64.bits)=((N/256^(5-j):Nat):Int):=by rcases(show j=0\/j=1\/j=2\/j=3\/j=4\/j=5 by omega)with rfl|rfl|rfl|rfl|rfl|rfl<;>simp[IntKind.bits,Int.fdiv_eq_ediv]
theorem GO{N j:Nat}(a:j<6):(by6 N).take (j+1)=(by6 N).take j++[UInt8.ofNat<|N/256^(5-j)]:=by rcases(show j=0\/j=1\/j=2\/j=3\/j=4\/j=5 by omega)with rfl|rfl|rfl|rfl|rfl|rfl<;>rfl
def PU{P:XN}(L:lo<=H.length)(p:SlN H v P)(m:P.length=5)(o:∀w ∈ P,w<900) :
  Ev cp lo 152 [v] H λr H'=>Ext H H'/\((281474976710656<=aa 900 P/\r=.tuple #[.slice none 0 0,.bool false])\/(aa 900 P<281474976710656/\∃u,r=.tuple #[u,.bool true]/\Sl bT H' u (by6<|aa 900 P))):=by
 obtain⟨A,c5,rfl⟩:=p.len;rw[m]at p;rw[m];apply stG rfl rfl;unfold NB;simp only[kB,aC];refine aA ?_;apply aP (λj S a=>H=a/\∃(z:Nat->Value),S=[.slice A 5 c5,.slice none 0 0,.bool false,.int .i64 (aa 900 (P.take j)),.int .i64 j,z 5,z 6,z 7,z 8,z 9]) 5
 .exact⟨rfl,aH rfl⟩
 .rintro j S a g ⟨rfl,z,rfl⟩
  exact⟨_,aM,by simp;try omega⟩
 .rintro j S a g ⟨rfl,z,rfl⟩
  obtain⟨Y,o0,R,B,U,C,I,i,D⟩:=p.els 0 byO;rw[m]at C;cases C;have Q:=i j byO;have q:=iZ o j byO;have d:(900:Nat)^j<=900^4:=Nat.pow_le_pow_right Wd byO;have M:P.getD j 0<900:=by
   rw[au₀,bc₀ byO];exact o _<|List.getElem_mem _
  rw[jb byO];have Z:aa 900 (P.take j)<=656100000000:=byO;clear i q d;generalize aa 900 (P.take j)=X at *;generalize P.getD j 0=y at *;refine aA ?_;exact⟨We,aH (by rw[bb₀ X 900];simp only[ap₀,Int.natCast_mul,Int.cast_ofNat_Int];rfl)⟩
 .rintro S a ⟨rfl,z,rfl⟩
  have n:=iZ o 5 byO;have G:P.take 5=P:=List.take_of_length_le byO;rw[G]at n ⊢;generalize aa 900 P=N at *;(try simp only[aC]);refine aK ?_ ?_<;>intro h
  .have f:281474976710656<=N:=Wt
   clear h;refine aA ?_;refine aL ?_;exact⟨Ext.refl _,.inl ⟨f,rfl⟩⟩
  have t:N<281474976710656:=Wu
  clear h;refine aA ?_;apply aP (λj S a=>Ext H a/\(∃u c,H.length<=c/\Own lo 1 a u c (((by6 N).take j).map bT)/\∃(z:Nat->Value),S=[.slice A 5 c5,z 1,z 2,.int .i64 N,z 4,u,.int .i64<|5-(j:Int),z 7,z 8,z 9])) 6
  .exact⟨Ext.refl _,_,H.length,Nat.le_refl _,Own.nil byO,aH rfl⟩
  .rintro j S a g ⟨-,u,c,-,-,z,rfl⟩
   exact⟨_,aM,Wr⟩
  .rintro j S a g ⟨l,u,c,e,k,z,rfl⟩
   have O:=l.1;have F:=TI (N:=N) g;have b:((by6 N).take j).length<=1000000:=by simp[by6];omega
   rw[GO g];generalize hX:N/256^(5-j)=X at *;refine aA ?_;rw[De,show Value.int .u8 ((UInt8.ofNat X).toNat:Int)=bT (UInt8.ofNat X) from rfl];refine ay ?_;apply k0 byO l e k b;intro W m4 V x K J s;clear k b F;refine aA ?_;exact⟨x,_,a.length+1,byO,s,aH Wr⟩
  .rintro S a ⟨l,u,c,e,k,z,rfl⟩
   refine aA ?_;refine aL ?_;exact⟨l,.inr ⟨t,u,rfl,Sl.ofOwn k⟩⟩
def SJ{l:XN}(B:lo<=H.length)(o:SlN H v l)(A:l.length<=8192) :
  Ev cp lo 104 [v] H λr H'=>H'=H/\r=.int .i64 (bS l).length:=by
 obtain⟨f,g,rfl⟩:=o.len;apply stG rfl rfl;unfold M7;simp[kB,aC];refine aA ?_;apply ij (λS H'=>H=H'/\∃q,(q<=(bS l).length/\(bS l).length<=q)/\∃(z:Nat->Value),S=[.slice f l.length g,z 1,q])
 .apply aj (λm S H'=>H=H'/\∃q,(m+q<=l.length/\l.length<=m+q)/\q<=l.length/\(∀j,j<q->l.getD j 0<900)/\∃(z:Nat->Value),S=[.slice f l.length g,z 1,q]) l.length
  .exact⟨rfl,0,byO,byO,λj y=>byO,aH rfl⟩
  rintro m S H' ⟨rfl,q,s,C,a,z,rfl⟩;by_cases d:q<l.length
  .have⟨I,J,F,i,G,u,x,b,p⟩:=o.els 0 byO
   cases u;have D:=b q d;refine aK ?_ ?_<;>intro h
   .have c:l.getD q 0<900:=by
     simp only[ac₀,af₀]at h;omega
    refine aA ?_;simp only[bJ];refine⟨m-1,byO,We,q+1,byO,byO,λj y=>?_,aH ncM⟩;by_cases e:j=q
    .subst e;exact c
    .exact a j byO
   .have c:900<=l.getD q 0:=by
     simp only[Bool.and_eq_false_iff,ai₀]at h;omega
    have w:=nO (n:=q) a byO<|.inr c;exact⟨We,q,byO,aH rfl⟩
  .have w:=nO (n:=q) a byO<|.inl byO
   have k:decide (((q:Nat):Int)<((l.length:Nat):Int))=false:=Wr
   refine bu (t:=false) eU (λh=>by cases h) λh=>?_;exact⟨We,_,byO,aH rfl⟩
 .rintro S H' ⟨rfl,q,s,z,rfl⟩
  have e:(bS l).length=q:=byO;rw[e];refine aA ?_;refine aL ?_;exact⟨rfl,rfl⟩
def mC(c sub shift:Nat):Option<|XU×Nat×Nat:=match stp sub shift (c/30)with
 | none=>none
 | some (c1,x,y)=>match stp x y (c%30)with
  | none=>none
  | some (c2,x2,y2)=>some (chS c1++chS c2,x2,y2)
def Wh{c sub a:Nat}(c0:lo<=H.length)(hc:c<900)(L:sub<4)(M:a<3) :
  Ev cp lo 103 [.int .i64 c,.int .i64 sub,.int .i64 a] H λr H'=>Ext H H'/\((mC c sub a=none/\r=.tuple #[.slice none 0 0,(0:Int),(0:Int),false])\/∃t x y u,mC c sub a=some (t,x,y)/\r=.tuple #[u,.int .i64 x,.int .i64 y,true]/\Sl bT H' u t):=by
 have e1:(c:Int).tdiv 30=((c/30:Nat):Int):=rfl;have U:(c:Int).tmod 30=((c%30:Nat):Int):=rfl;apply stG rfl rfl;unfold M6;simp only[kB,aC];refine aA ?_;apply aP (λj S B=>Ext H B/\(∃(x y:Nat) (u:Value) (g:Nat) (t:XU),x<4/\y<3/\(False\/(j=0/\t=[]/\x=sub/\y=a\/(j=1/\∃i,stp sub a (c/30)=some (i,x,y)/\t=chS i)\/j=2/\mC c sub a=some (t,x,y)))/\t.length<=j/\H.length<=g/\Own lo 1 B u g (t.map bT)/\∃(z:Nat->Value),S=[.int .i64 c,.int .i64 x,.int .i64 y,z 3,z 4,z 5,z 6,u,.int .i64 j,z 9,z 10,z 11,z 12,z 13,z 14,z 15,z 16,z 17])) 2
 .exact⟨Ext.refl _,sub,a,_,H.length,[],L,M,.inr<|.inl ⟨rfl,rfl,rfl,rfl⟩,Wc,Nat.le_refl _,Own.nil byO,aH rfl⟩
 .rintro j S B hj ⟨m,x,y,u,g,t,F,G,k,W,I,C,z,rfl⟩
  exact⟨_,aM,Wr⟩
 .rintro j S B hj ⟨m,x,y,u,g,t,F,G,k,W,I,C,z,rfl⟩
  have e0:=m.1;obtain⟨w,b,l⟩:∃w,w=(if j=0 then c/30 else c%30)/\w<30:=⟨_,rfl,by split;omega;exact Nat.mod_lt c Wd⟩;replace b:=Wa b;refine aA ?_;apply kA (λS H'=>B=H'/\∃(z:Nat->Value),S=[.int .i64 c,.int .i64 x,.int .i64 y,z 3,z 4,z 5,z 6,u,.int .i64 j,.int .i64 w,z 10,z 11,z 12,z 13,z 14,z 15,z 16,z 17])
  .refine aK ?_ ?_<;>intro h
   .have e:j=1:=Wt
    clear h;have b:=Wb b;rw[if_neg byO]at b;subst b;clear e k;refine aA ?_;exact⟨We,aH rfl⟩
   .have e:j=0:=Wu
    clear h;have b:=Wb b;rw[if_pos e]at b;subst b;clear e k;(try simp only[aC]);exact⟨We,aH rfl⟩
  .rintro S H' ⟨rfl,z,rfl⟩
   refine bV ?_;refine aB (Qo F G l) ?_;rintro r R ⟨rfl,rfl⟩;unfold Bt;cases D:stp x y w with
   | none=>
    have P:mC c sub a=none:=by
     have b:=Wb b;rcases Wb k with ⟨e,-,rfl,rfl⟩|⟨e,i,N,-⟩|⟨e,-⟩
     .rw[if_pos e]at b
      rw[mC,<-b,D]
     .rw[if_neg byO]at b
      rw[mC,N];simp only;rw[<-b,D]
     .omega
    refine aA ?_;refine aK ?_ ?_<;>intro h
    .clear h
     refine aA ?_;refine aL ?_;exact⟨m,.inl ⟨P,rfl⟩⟩
    .simp at h
   | some q=>
    obtain⟨f,J,K⟩:=q;have X:=qf F G l D;have d:(j+1=1/\∃i,stp sub a (c/30)=some (i,J,K)/\t++chS f=chS i)\/j+1=2/\mC c sub a=some (t++chS f,J,K):=by
     have b:=Wb b;rcases Wb k with ⟨e,U,rfl,rfl⟩|⟨e,i,N,Z⟩|⟨e,-⟩
     .rw[if_pos e]at b
      subst U;exact .inl ⟨byO,f,by rw[<-b,D],rfl⟩
     .rw[if_neg byO]at b
      refine .inr ⟨byO,?_⟩;rw[mC,N];simp only;rw[<-b,D,Z]
     .omega
    have V:(chS f).length<=1:=X7
    have d:=Wa d;clear D;refine aA ?_;refine aK ?_ ?_<;>intro h
    .simp at h
    clear h;(try simp only[aC]);refine kA (λS H'=>Ext H H'/\∃u g,H.length<=g/\Own lo 1 H' u g ((t++chS f).map bT)/\∃(z:Nat->Value),S=[.int .i64 c,.int .i64 x,.int .i64 y,z 3,z 4,z 5,z 6,u,.int .i64 j,z 9,z 10,.int .i64 J,.int .i64 K,z 13,z 14,z 15,z 16,z 17]) ?_ ?_
    .by_cases Q:0<=f
     .obtain⟨n,rfl⟩:∃n:Nat,f=n:=⟨f.toNat,byO⟩
      have p:chS (n:Int)=[UInt8.ofNat n]:=by simp[chS]
      refine aK ?_ ?_<;>intro h
      .clear h
       refine aA ?_;have o:Value.int .u8 (n:Nat)=bT (UInt8.ofNat n):=by
        simp only[bT,UInt8.toNat_ofNat'];rw[Nat.mod_eq_of_lt byO]
       rw[o];refine ay ?_;refine k0 byO m I C byO ?_;intro a4 m4 R A b0 a0 s;rw[p];clear C;refine aA ?_;exact⟨A,_,_,by have:=m.1;omega,s,aH rfl⟩
      .exfalso;first|cases h|(simp only[ai₀]at h;omega)
     .have p:chS f=[]:=by rw[chS,if_neg Q]
      refine aK ?_ ?_<;>intro h
      .exfalso;first|cases h|(simp only[af₀]at h;omega)
      clear h;rw[p,List.append_nil];(try simp only[aC]);exact⟨m,_,g,I,C,aH rfl⟩
    .rintro S R ⟨A,u4,Y,O,s,z,rfl⟩
     refine aA ?_;refine⟨A,J,K,u4,Y,t++chS f,X.2.2.1,X.2.2.2,.inr ?_,Wr,O,s,aH ncM⟩;rcases Wb d with ⟨e,h⟩|⟨e,h⟩
     .obtain⟨i,L,M⟩:=h
      exact .inr<|.inl ⟨e,i,L,M⟩
     .exact .inr<|.inr ⟨e,h⟩
 .rintro S B ⟨m,x,y,u,g,t,F,G,k,W,I,C,z,rfl⟩
  refine aA ?_;refine aL ?_;have k:=Wb k;rcases k with ⟨e,-⟩|⟨e,-⟩|⟨-,e⟩
  .omega
  .omega
  .exact⟨m,.inr ⟨t,x,y,u,e,rfl,Sl.ofOwn C⟩⟩
def qU(a:UInt8):(bT a).oneCell'=true:=rfl
def RD{l:XN}(h:SlN H v l):SlI H v<|l.map Int.ofNat:=by
 rcases h with ⟨rfl,rfl⟩|⟨b,o,sp,a,xs,rfl,c,e,f,d,g⟩
 .exact .inl ⟨rfl,rfl⟩
 .refine .inr ⟨b,o,sp,a,xs,Wx,c,?_,Wx,d,Wx⟩
  simp_all
theorem Kn(l:XN):(l.map Int.ofNat).map Int.toNat=l:=by
 rw[List.map_map]
 conv=>rhs;rw[<-List.map_id l]
 rfl
theorem wC{l:XN}(d:l.length<=8192)(c:∀w ∈ l,w<900):oK (l.map Int.ofNat)=match fS l with|some t=>(t,0)|none=>([],22):=by
 unfold oK;have a:¬ (8192<(l.map Int.ofNat).length):=Wx
 have b:(l.map Int.ofNat).all okW=true:=by
  grind[okW]
 rw[if_neg a,b,Kn];rfl
def TD{l:XN}{mode:Nat}(w0:lo<=H.length)(hl:SlN H v l)(R:l.length<=8192)(hd:∀w ∈ l,w<900)(hm:mode=901\/mode=902\/mode=924) :
  Ev cp lo 105 [.int .i64 mode,v] H λr H'=>Ext H H'/\Fh H' r (iD mode l):=by
 obtain⟨ad,c0,rfl⟩:=hl.len;by_cases m:mode=902
 .subst m
  have hs:iD 902 l=((oK<|l.map Int.ofNat).1,(oK<|l.map Int.ofNat).2.toNat):=by
   rw[wC R hd,iD,if_pos rfl];cases fS l<;>rfl
  have x0:(oK<|l.map Int.ofNat).2=0\/(oK<|l.map Int.ofNat).2=22:=by
   rw[wC R hd];cases fS l<;>simp
  rw[hs];clear hs;refine stG rfl rfl ?_;unfold Fv;simp only[kB,aC];refine aA ?_;refine bu (t:=true) eU (λh=>?_) (λh=>by cases h);clear h;refine bV ?_;refine aB (Qg byO<|RD hl) ?_;rintro r P ⟨f,rfl⟩;generalize oK (l.map Int.ofNat)=q at *;obtain⟨t,e⟩:=q;simp only at x0;refine aA ?_;have W:bh lo .s2b [eI t] P=some (.slice (some ⟨P.length,0,some 1⟩) t.length t.length,P++[some<|t.map bT]):=by
   simp only[bh,hsem,eI];rw[iF];rfl
  refine vN rfl eU dY eU W eU ?_;refine aA ?_;refine aL ?_;refine⟨f.trans<|Ext.app _ _,_,?_,.inr ⟨P.length,0,some 1,t.length,t.map bT,rfl,aI,by rw[List.drop_zero,List.take_of_length_le Wc],Wc,.inr rfl,Wc⟩⟩;have:((e.toNat:Nat):Int)=e:=byO;rw[this];rfl
 have q0:((l.length:Nat):Int).tmod 5=((l.length%5:Nat):Int):=rfl;have l0:((l.length:Nat):Int).tdiv 5=((l.length/5:Nat):Int):=rfl;have C:0<l.length->(((l.length:Nat):Int)-1).tdiv 5=(((l.length-1)/5:Nat):Int):=by
  intro h;obtain⟨n,hn⟩:∃n,l.length=n+1:=⟨l.length-1,byO⟩;rw[hn,show((n+1:Nat):Int)-1=(n:Nat) by omega]
  all_goals rfl
 have U:mode=901\/mode=924:=byO;clear hm;refine stG rfl rfl ?_;unfold Fv;simp only[kB,aC];refine aA ?_;refine aK ?_ ?_<;>intro h
 .exfalso;simp only[af₀]at h;omega
 clear h;refine aA ?_;refine aK ?_ ?_<;>intro h
 .have e:mode=924/\l.length%5≠0:=XB
  clear h;have V:iD mode l=([],10):=by rw[iD,if_neg m,if_pos e]
  rw[V];clear e C U;refine aA ?_;refine aL ?_;exact⟨Ext.refl _,_,rfl,.inl ⟨rfl,rfl⟩⟩
 have p:¬ (mode=924/\l.length%5≠0):=Xp
 clear h;(try simp only[aC]);obtain⟨G,B⟩:∃G,(if mode=901 then(l.length-1)/5 else l.length/5)=G:=⟨_,rfl⟩;have V:iD mode l=match gD G l with|some t=>(t,0)|none=>([],22):=by
  rw[iD,if_neg m,if_neg p,B];rfl
 rw[V];have Z0:5*G<=l.length:=by rw[<-B];split<;>omega
 replace B:=Wa B;refine kA (λS H'=>H=H'/\∃(z:Nat->Value),S=[.int .i64 mode,.slice ad l.length c0,.slice none 0 0,.int .i64 0,z 4,z 5,.int .i64 G,z 7,z 8,z 9,z 10,z 11,z 12,z 13,z 14,z 15,z 16,z 17,z 18]) ?_ ?_
 .have B:=Wb B
  refine aK ?_ ?_<;>intro h
  .have e:mode=901/\0<l.length:=XB
   clear h;rw[if_pos e.1]at B;have C:=C e.2;have hq:1<=l.length:=e.2;clear e p U m V;refine aA ?_;exact⟨We,aH (by rw[<-B];rfl)⟩
  .have e:G=l.length/5:=by
    have:¬ (mode=901/\0<l.length):=Xp
    rw[<-B];split<;>omega
   clear h;(try simp only[aC]);exact⟨We,aH (by rw[e];rfl)⟩
 rintro S H' ⟨rfl,z,rfl⟩;clear B p V C l0 q0;refine aA ?_;refine aP (λk S H'=>Ext H H'/\∃(u:Value) (o:Nat) (t:XU),(False\/gD G l=(gD (G-k)<|l.drop<|5*k).map (t++·))/\t.length<=6*k/\H.length<=o/\Own lo 1 H' u o (t.map bT)/\∃(z:Nat->Value),S=[.int .i64 mode,.slice ad l.length c0,.slice none 0 0,.int .i64 0,z 4,z 5,.int .i64 G,u,.int .i64 k,z 9,z 10,z 11,z 12,z 13,z 14,z 15,z 16,z 17,z 18]) G ?_ ?_ ?_ ?_
 .exact⟨Ext.refl _,_,H.length,[],.inr Wc,Wc,Nat.le_refl _,Own.nil w0,aH rfl⟩
 .rintro k S H' hk ⟨f,u,o,t,K,ht,c,s,z,rfl⟩
  exact⟨_,aM,Wc⟩
 .rintro k S H' hk ⟨f,u,o,t,K,ht,c,s,z,rfl⟩
  have h0:=f.1;obtain⟨s5,a1,Y⟩:=eO (a:=5*k) (b:=5*k+5) (x:=5*(k:Int)) (y:=5*(k:Int)+5) (hl.mono f) byO byO byO byO;have h5:((l.drop<|5*k).take<|5*k+5-5*k).length=5:=Wr
  rw[show 5*k+5-5*k=5 by omega]at Y h5;have s0:∀w ∈ (l.drop<|5*k).take 5,w<900:=λw hw=>hd w<|List.mem_of_mem_drop<|List.mem_of_mem_take hw;have d:gD (G-k) (l.drop<|5*k)=if 281474976710656<=aa 900 ((l.drop<|5*k).take 5) then none else(gD (G-(k+1))<|l.drop<|5*(k+1)).map (by6 (aa 900<|(l.drop<|5*k).take 5)++·):=by
   rw[show G-k=(G-(k+1))+1 by omega,gD,List.drop_drop,show 5*k+5=5*(k+1) by omega]
  replace d:=Wa d;refine bV ?_;refine aB (PU byO Y h5 s0) ?_;generalize aa 900 ((l.drop<|5*k).take 5)=N at *;rintro r P ⟨D,⟨F,rfl⟩|⟨Z,u6,rfl,y0⟩⟩
  .have L:gD G l=none:=by rw[Wb K,Wb d,if_pos F];rfl
   rw[L];refine aA ?_;refine aK ?_ ?_<;>intro h
   .clear h
    refine aA ?_;refine aL ?_;exact⟨f.trans D,_,rfl,.inl ⟨rfl,rfl⟩⟩
   .simp at h
  .have X0:=D.1
   have T0:(by6 N).length=6:=rfl;refine aA ?_;refine aK ?_ ?_<;>intro h
   .simp at h
   clear h;refine bV ?_;refine jx (A:=H.length) qU byO c byO (s.mono D) y0 byO ?_;intro u4 H4 b4 r0 M Q;have O:=Q.ext (f.trans D) c;refine aA ?_;refine⟨O,u4,b4,t++by6 N,.inr ?_,by simp only[as₀];omega,r0,M,aH ncM⟩;rw[Wb K,Wb d,if_neg byO];cases gD (G-(k+1))<|l.drop<|5*(k+1)<;>simp
 .rintro S H' ⟨f,u,o,t,K,ht,c,s,z,rfl⟩
  have h0:=f.1;rw[Nat.sub_self]at K;have Y0:(5:Int)*(G:Nat)=((5*G:Nat):Int):=byO;refine aA ?_;refine aP (λi S H'=>Ext H H'/\∃(u:Value) (o:Nat),H.length<=o/\(∀j,j<i->l.getD (5*G+j) 0<=255)/\Own lo 1 H' u o ((t++((l.drop<|5*G).take i).map UInt8.ofNat).map bT)/\∃(z:Nat->Value),S=[.int .i64 mode,.slice ad l.length c0,.slice none 0 0,.int .i64 0,z 4,z 5,z 6,u,z 8,z 9,z 10,.int .i64 ((5*G+i:Nat):Int),z 12,z 13,z 14,z 15,z 16,z 17,z 18]) (l.length-5*G) ?_ ?_ ?_ ?_
  .exact⟨f,u,o,c,λj hj=>byO,by simpa using s,aH rfl⟩
  .rintro i S H' hi ⟨f,u,o,c,g,s,z,rfl⟩
   exact⟨_,aM,Wr⟩
  .rintro i S H' hi ⟨f,u,o,c,g,s,z,rfl⟩
   have h0:=f.1;obtain⟨b0,o0,h1,H0,j1,e0,b1,g0,S0⟩:=(hl.mono f).els 0 byO;cases e0;have g1:=g0 (5*G+i) byO;clear g0;(try simp only[aC]);refine aK ?_ ?_<;>intro h
   .have F:255<l.getD (5*G+i) 0:=Wt
    clear h;have L:gD G l=none:=by
     rw[Wb K,gD,if_neg]
     .rfl
     .rw[List.all_eq_true]
      intro hc;have:=of_decide_eq_true<|hc (l.getD (5*G+i) 0) (by rw[au₀,<-List.getElem?_drop,bc₀ Wr];exact List.getElem_mem _);omega
    rw[L];refine aA ?_;refine aL ?_;exact⟨f,_,rfl,.inl ⟨rfl,rfl⟩⟩
   have Z:l.getD (5*G+i) 0<=255:=Wu
   clear h;have a0:((l.drop<|5*G).take<|i+1).map UInt8.ofNat=((l.drop<|5*G).take i).map UInt8.ofNat++[UInt8.ofNat<|l.getD (5*G+i) 0]:=by
    rw[List.take_add_one,List.getElem?_drop,bc₀ byO,au₀,bc₀ byO];simp only[List.map_append,Option.toList_some,ag₀,al₀,aq₀]
   have J:∀j,j<i+1->l.getD (5*G+j) 0<=255:=λj hj=>by
    by_cases e:j=i
    .subst e;exact Z
    .exact g j byO
   have I:(t++((l.drop<|5*G).take i).map UInt8.ofNat).length<=1000000:=Wr
   rw[a0,<-ba₀];clear g a0;generalize l.getD (5*G+i) 0=X at *;refine aA ?_;rw[show Value.int .u8 (X:Nat)=bT (UInt8.ofNat X) by
    simp only[bT,UInt8.toNat_ofNat'];rw[Nat.mod_eq_of_lt byO]]
   refine ay ?_;refine k0 byO f c s I ?_;intro a4 m4 H4 O e1 Q M;clear s I;refine aA ?_;exact⟨O,_,_,byO,J,M,aH (by rw[show((5*G+i:Nat):Int)+1=((5*G+(i+1):Nat):Int) by omega];rfl)⟩
  .rintro S H' ⟨f,u,o,c,g,s,z,rfl⟩
   have j0:gD G l=some (t++(l.drop<|5*G).map UInt8.ofNat):=by
    rw[Wb K,gD,if_pos]
    .rfl
    .rw[List.all_eq_true]
     intro w z0;obtain⟨j,hj,rfl⟩:=List.getElem_of_mem z0;rw[List.length_drop]at hj;have:=g j byO;rw[au₀,bc₀ byO]at this;rw[List.getElem_drop];exact decide_eq_true this
   rw[j0];rw[List.take_of_length_le Wc]at s;refine aA ?_;refine aL ?_;exact⟨f,_,rfl,Sl.ofOwn s⟩
theorem va(n w:Nat)(r:XN)(sub a:Nat)(b:XU)(h:w<900):ea (n+1) (w::r) sub a b=match mC w sub a with
  | none=>([],22)
  | some (t,x,y)=>ea n r x y<|b++t:=by grind[dR,mC]
def GK{c sub d x y:Nat}{t:XU}(o:c<900)(g:sub<4)(i:d<3)(h:mC c sub d=some (t,x,y)):x<4/\y<3/\t.length<=2:=by
 unfold mC at h;split at h
 .cases h
 next m a b j=>
  have f:=qf g i (show c/30<30 by omega) j;split at h
  .cases h
  next n k l e=>
   have p:=qf f.2.2.1 f.2.2.2 (Nat.mod_lt c Wd) e
   grind[chS]
def Iy{l:XI}(W1:lo<=H.length)(hl:SlI H v l) :
  Ev cp lo 58 [v] H λr H'=>Ext H H'/\Fh H' r (yw l):=by
 have T1:=hl;obtain⟨ad,c0,rfl⟩:=hl.len;rw[CY];refine stG rfl rfl ?_;unfold Rl;simp only[kB,aC];refine aA ?_;refine aK ?_ ?_<;>intro h
 .have hc:8192<l.length:=Wt
  clear h;rw[if_pos hc];refine aA ?_;refine aL ?_;exact⟨Ext.refl _,_,rfl,.inl ⟨rfl,rfl⟩⟩
 have hc:l.length<=8192:=Wu
 clear h;rw[if_neg byO];refine aA ?_;refine aP (λi S H'=>H=H'/\(∀j,j<i->okD (l.getD j 0)=true)/\∃(z:Nat->Value),S=[.slice ad l.length c0,.slice none 0 0,.int .i64 0,.int .i64 i,z 4,z 5,z 6,z 7,z 8,z 9,z 10,z 11,z 12,z 13,z 14,z 15,z 16,z 17,z 18,z 19,z 20,z 21,z 22,z 23]) l.length ?_ ?_ ?_ ?_
 .exact⟨rfl,λj hj=>byO,aH rfl⟩
 .rintro i S H' hi ⟨rfl,-,z,rfl⟩
  exact⟨_,aM,Wc⟩
 .rintro i S H' hi ⟨rfl,g,z,rfl⟩
  obtain⟨b0,o0,Y1,X0,a2,Y,I,Q,g0⟩:=hl.els 0 byO;cases Y;have T0:=Q i hi;(try simp only[aC]);refine aK ?_ ?_<;>intro h
  .have w0:okD (l.getD i 0)=false:=by
    simp only[ar₀,af₀]at h;simp only[okD,Bool.and_eq_false_iff,ai₀];omega
   clear h;rw[DE hi w0];clear I Q T0 g0;refine aA ?_;refine aL ?_;exact⟨Ext.refl _,_,rfl,.inl ⟨rfl,rfl⟩⟩
  .have F:okD (l.getD i 0)=true:=by
    simp only[Bool.or_eq_false_iff,ai₀]at h;simp only[okD,ac₀,af₀];omega
   clear h;refine aA ?_;refine⟨We,λj hj=>?_,aH ncM⟩;by_cases e:j=i
   .subst e;exact F
   .exact g j byO
 .rintro S H' ⟨rfl,g,z,rfl⟩
  have g:=CE g;rw[g];have j0:=List.all_eq_true.1 g;have hr:∀w ∈ l,0<=w/\w<=928:=λw hw=>by
   have:=j0 w hw;simpa only[okD,ac₀,af₀]using this
  have S0:∀w ∈ l.map Int.toNat,w<=928:=λw hw=>by
   obtain⟨x,B,rfl⟩:=List.mem_map.1 hw;have:=hr x B;omega
  have M:=Bo hl λw hw=>(hr w hw).1;have s0:l.length=(l.map Int.toNat).length:=Wc
  rw[if_pos rfl];generalize l.map Int.toNat=ws at *;rw[s0]at M hc;rw[s0];clear s0 g j0 hr hl T1;refine aA ?_;refine aj (λm S H'=>Ext H H'/\∃(n pos sub p:Nat) (u:Value) (b':Nat) (f:XU),m+pos=ws.length/\ws.length+1<=n+pos/\sub<4/\p<3/\f.length<=44*pos/\(False\/ea (ws.length+1) ws 0 0 []=ea n (ws.drop pos) sub p f)/\H.length<=b'/\Own lo 1 H' u b' (f.map bT)/\∃(z:Nat->Value),S=[.slice ad ws.length c0,z 1,z 2,z 3,u,.int .i64 sub,.int .i64 p,.int .i64 pos,z 8,z 9,z 10,z 11,z 12,z 13,z 14,z 15,z 16,z 17,z 18,z 19,z 20,z 21,z 22,z 23]) ws.length ?_ ?_
  .exact⟨Ext.refl _,ws.length+1,0,0,0,_,H.length,[],byO,byO,byO,byO,Wc,.inr rfl,Nat.le_refl _,Own.nil W1,aH rfl⟩
  rintro m S H' ⟨B,n,pos,sub,p,u,b',f,hm,hn,V,y0,w1,G,J,ho,z,rfl⟩;have x2:=B.1;(try simp only[aC]);refine aK ?_ ?_<;>intro h
  .have L:pos<ws.length:=Wt
   clear h;obtain⟨n,rfl⟩:∃k,n=k+1:=⟨n-1,byO⟩;obtain⟨b0,o0,Y1,X0,a2,Y,I,Q,g0⟩:=(M.mono B).els 0 byO;cases Y;have T0:=Q pos L;clear Q;have O:ws.drop pos=ws.getD pos 0::ws.drop (pos+1):=by
    rw[List.drop_eq_getElem_cons L,au₀,bc₀ L];rfl
   have w2:ws.getD pos 0<=928:=by
    rw[au₀,bc₀ L];exact S0 _<|List.getElem_mem L
   rw[O]at G;clear O;generalize ws.getD pos 0=w at *;have e2:(pos:Int)+1=((pos+1:Nat):Int):=byO;refine aA ?_;refine aK ?_ ?_<;>intro h
   .have e:w<900:=Wt
    clear h;refine bV ?_;refine aB (Wh byO e V y0) ?_;rintro r H2 ⟨W,⟨w0,rfl⟩|⟨t,x,y,v2,F,rfl,X1⟩⟩
    .refine aA ?_
     refine aK ?_ ?_<;>intro h
     .clear h
      rw[Wb G,va _ _ _ _ _ _ e,w0];clear G;refine aA ?_;refine aL ?_;exact⟨B.trans W,_,rfl,.inl ⟨rfl,rfl⟩⟩
     .simp at h
    .have u1:=GK e V y0 F
     have c:ea (ws.length+1) ws 0 0 []=ea n (ws.drop<|pos+1) x y (f++t):=by
      rw[Wb G,va _ _ _ _ _ _ e,F]
     replace c:=Wa c;have h2:=W.1;clear G F;refine aA ?_;refine aK ?_ ?_<;>intro h
     .simp at h
     clear h;refine bV ?_;refine jx (A:=H.length) qU byO J byO (ho.mono W) X1 byO ?_;intro u4 H4 b4 G1 x0 r0;have D:=r0.ext (B.trans W) J;clear ho r0;refine aA ?_;simp only[bJ];exact⟨m-1,byO,D,n,pos+1,x,y,u4,b4,f++t,byO,byO,u1.1,u1.2.1,by rw[as₀];omega,c,G1,x0,aH rfl⟩
   have h9:¬ (w<900):=Wu
   clear h;refine aA ?_;refine aK ?_ ?_<;>intro h
   .have e:w=900:=Wt
    clear h;have c:ea (ws.length+1) ws 0 0 []=ea n (ws.drop<|pos+1) 0 0 f:=by
     rw[Wb G,dR,if_neg h9,if_pos e]
    replace c:=Wa c;clear G;refine aA ?_;simp only[bJ];exact⟨m-1,byO,B,n,pos+1,0,0,u,b',f,byO,byO,byO,byO,byO,c,J,ho,aH rfl⟩
   have N:¬ (w=900):=Wu
   clear h;(try simp only[aC]);refine aK ?_ ?_<;>intro h
   .have e:w=913:=Wt
    clear h;have c:ea (ws.length+1) ws 0 0 []=match ws.drop (pos+1)with
      | []=>([],10)
      | z::r2=>if 255<z then([],22) else ea n r2 sub 0 (f++[UInt8.ofNat z]):=by
     rw[Wb G,dR,if_neg h9,if_neg N,if_pos e];cases ws.drop<|pos+1<;>rfl
    clear G h9 N;subst e;(try simp only[aC]);refine aK ?_ ?_<;>intro h
    .have e:pos+1=ws.length:=Wt
     clear h;rw[c,List.drop_eq_nil_of_le byO];clear c e;refine aA ?_;refine aL ?_;exact⟨B,_,rfl,.inl ⟨rfl,rfl⟩⟩
    have P:pos+1<ws.length:=Wu
    clear h;obtain⟨b1,o1,Z1,Y0,b2,e1,k1,C,p1⟩:=(M.mono B).els 0 byO;have l0:b1=b0/\o1=o0:=by injection e1 with R q2 q3;injection R with R;injection R with R q2 q3;exact⟨R.symm,q2.symm⟩
    obtain⟨rfl,rfl⟩:=l0;rw[k1]at I;injection I with I;subst I;have F1:=C (pos+1) P;have O:ws.drop (pos+1)=ws.getD (pos+1) 0::ws.drop (pos+1+1):=by
     rw[List.drop_eq_getElem_cons P,au₀,bc₀ P];rfl
    rw[O]at c;simp only at c;clear O C e1;generalize ws.getD (pos+1) 0=y at *;replace c:=Wa c;(try simp only[aC]);refine aK ?_ ?_<;>intro h
    .have g1:255<y:=Wt
     clear h;rw[Wb c,if_pos g1];clear c;refine aA ?_;refine aL ?_;exact⟨B,_,rfl,.inl ⟨rfl,rfl⟩⟩
    have u2:y<=255:=Wu
    clear h;rw[if_neg byO]at c;refine aA ?_;rw[show Value.int .u8 (y:Nat)=bT (UInt8.ofNat y) by
     simp only[bT,UInt8.toNat_ofNat'];rw[Nat.mod_eq_of_lt byO]]
    refine ay ?_;refine k0 byO B J ho byO ?_;intro a4 m4 H4 D m2 r0 x0;clear ho;refine aA ?_;simp only[bJ];exact⟨m-2,byO,D,n,pos+1+1,sub,0,_,_,f++[UInt8.ofNat y],byO,byO,V,byO,by rw[as₀,List.length_singleton];omega,c,byO,x0,aH ncM⟩
   have Z0:¬ (w=913):=Wu
   clear h;(try simp only[aC]);refine aK ?_ ?_<;>intro h
   .have e:w=901\/w=902\/w=924:=by simp only[ar₀,af₀]at h;omega
    clear h;have c:=Wb G;rw[xM e]at c;replace c:=Wa c;clear G;obtain⟨sa,K1,A1⟩:=sN (M.mono B) (n:=pos+1) byO;have q0:=v7<|ws.drop<|pos+1;have j1:=oU<|ws.drop<|pos+1;have Z:=@tH<|ws.drop<|pos+1;have S1:(bS<|ws.drop<|pos+1).length<=8192:=by rw[List.length_drop]at q0;omega
    obtain⟨sb,L1,z0⟩:=eO (a:=pos+1) (b:=pos+1+(bS<|ws.drop<|pos+1).length) (x:=((pos+1:Nat):Int)) (y:=((pos+1:Nat):Int)+((bS<|ws.drop<|pos+1).length:Nat)) (M.mono B) byO byO byO (by rw[List.length_drop]at q0;omega);rw[Nat.add_sub_cancel_left,<-j1]at z0;have y1:=@JJ w<|ws.drop<|pos+1;have z1:∀q,iD w (bS<|ws.drop<|pos+1)=q->False\/rnS w (ws.drop<|pos+1)=if q.2=0 then(if (ws.drop<|pos+1+(bS<|ws.drop<|pos+1).length).head?=some 913 then([],22) else(q.1,0)) else([],q.2):=λq hq=>by
     refine .inr ?_;unfold rnS;rw[hq,List.drop_drop]
    rw[List.drop_drop]at c;clear j1;rw[List.length_drop]at q0;generalize hK:(bS<|ws.drop<|pos+1).length=K at *;replace hK:=Wa hK;have h1:(ws.drop<|pos+1).length<=8192:=by rw[List.length_drop];omega
    refine bV ?_;refine aB (SJ byO A1 h1) ?_;rintro r H2 ⟨rfl,rfl⟩;rw[Wb hK];refine aA ?_;refine ay ?_;refine aB (TD (mode:=w) byO z0 (by rw[Wb hK];exact S1) Z e) ?_;rintro r H4 ⟨D,v4,rfl,H0⟩;rcases hq:iD w (bS<|ws.drop<|pos+1)with ⟨t,e4⟩;have d:=z1 _ hq;have B1:e4=0->t.length<=44*K:=λh0=>by
     subst h0;have:=AN hq;rw[Wb hK]at this;exact this
    rw[hq]at H0;simp only at H0 d;have j2:=D.1;clear z1 hq A1 K1 z0 L1 Z;refine aA ?_;refine aK ?_ ?_<;>intro h
    .have Y:e4≠0:=Wt
     clear h;have d:=Wb d;rw[if_neg Y]at d;rw[Wb c,d];simp only[if_neg Y];clear c d y1;refine aA ?_;refine aL ?_;exact⟨B.trans D,_,rfl,.inl ⟨rfl,rfl⟩⟩
    have Y:e4=0:=Wu
    clear h;subst Y;rw[if_pos rfl]at d;have B1:=B1 rfl;refine bV ?_;refine jx (A:=H.length) qU byO J byO (ho.mono D) H0 byO ?_;intro u5 H5 b5 a1 r1 m1;have X:=m1.ext (B.trans D) J;have k2:((pos+1:Nat):Int)+(K:Nat)=((pos+1+K:Nat):Int):=byO;clear ho m1;refine aA ?_;have s:(ws.drop<|pos+1+K).head?≠some 913->False\/ea (ws.length+1) ws 0 0 []=ea n (ws.drop<|pos+1+K) 0 0 (f++t):=λh0=>by
     have d:=Wb d;rw[if_neg h0]at d;refine .inr ?_;rw[Wb c,d,if_pos rfl]
    have o:(ws.drop<|pos+1+K).head?=some 913->ea (ws.length+1) ws 0 0 []=([],22):=λh0=>by
     have d:=Wb d;rw[if_pos h0]at d;rw[Wb c,d,if_neg Wd]
    clear c d y1;have o2:pos+1+K<=ws.length:=byO;generalize hP:pos+1+K=U at *;by_cases x1:U<ws.length
    .obtain⟨b1,o1,Z1,Y0,b2,e1,k1,C,p1⟩:=(M.mono X).els 0 byO
     have l0:b1=b0/\o1=o0:=by injection e1 with R q2 q3;injection R with R;injection R with R q2 q3;exact⟨R.symm,q2.symm⟩
     obtain⟨rfl,rfl⟩:=l0;have F1:=C U x1;have hh:(ws.drop U).head?=some (ws.getD U 0):=by rw[List.head?_drop,au₀,bc₀ x1];rfl
     rw[hh]at s o;clear C e1 hh T0 I;generalize ws.getD U 0=y at *;(try simp only[aC]);refine aK ?_ ?_<;>intro h
     .have e:y=913:=XB
      clear h;rw[o (by rw[e])];clear o s;refine aA ?_;refine aL ?_;exact⟨X,_,rfl,.inl ⟨rfl,rfl⟩⟩
     .have e:y≠913:=by
       intro e;subst e;simp only[Bool.and_eq_false_iff,ai₀]at h;omega
      clear h;have s:=s Yc;clear o;refine aA ?_;simp only[bJ];exact⟨ws.length-U,byO,X,n,U,0,0,u5,b5,f++t,byO,byO,byO,byO,by rw[as₀];omega,s,a1,r1,aH rfl⟩
    .have g2:decide (((U:Nat):Int)<((ws.length:Nat):Int))=false:=Wr
     have s:=s (by rw[List.drop_eq_nil_of_le byO];simp);clear o;(try simp only[aC]);refine bu (t:=false) eU (λh=>by cases h) λh=>?_;clear h;refine aA ?_;simp only[bJ];exact⟨ws.length-U,byO,X,n,U,0,0,u5,b5,f++t,byO,byO,byO,byO,by rw[as₀];omega,s,a1,r1,aH rfl⟩
   .have e:¬ (w=901\/w=902\/w=924):=by simp only[Bool.or_eq_false_iff,ai₀]at h;omega
    clear h;rw[Wb G,dR,if_neg h9,if_neg N,if_neg Z0,if_neg e];clear G;refine aA ?_;refine aL ?_;exact⟨B,_,rfl,.inl ⟨rfl,rfl⟩⟩
  .have L:pos=ws.length:=Wu
   clear h;have a0:ea n (ws.drop pos) sub p f=(f,0):=by
    obtain⟨n,rfl⟩:∃m,n=m+1:=⟨n-1,byO⟩;rw[List.drop_eq_nil_of_le byO,ea]
   rw[Wb G,a0];clear G hm hn V y0 w1 a0;refine aA ?_;refine aL ?_;exact⟨B,_,rfl,Sl.ofOwn ho⟩
end Go.Proofs.YtgiojnobcjnibaaGreatDoor
namespace Go.RS
section
variable {K:Type}[Fd K]
def yL(X:K)(l:List K)(x:K):pv (aY<|l++[X]) (l.length+1) x=pv (aY l) l.length x*(1-X*x):=by have:=pT (mQ X) (ec l) x;grind[uX,gg,mul_comm]
def dnm(X:Nat->K)(P:XN)(p:Nat)(y:K)(j:Nat):K:=pv (aY<|((P.take j).filter λk=>decide<|k≠p).map X) ((P.take j).filter λk=>decide<|k≠p).length y
theorem HU(X:Nat->K)(P:XN)(p:Nat)(y:K):dnm X P p y 0=1:=by unfold dnm;grind[aY,OD]
theorem nF{P:XN}{j:Nat}(a:j<P.length):P.take (j+1)=P.take j++[P.getD j 0]:=Wx
def HP{X:Nat->K}{P:XN}{p:Nat}{y:K}{j:Nat}(a:j<P.length)(h:P.getD j 0=p):dnm X P p y (j+1)=dnm X P p y j:=by
 grind[dnm,nF]
def HQ{X:Nat->K}{P:XN}{p:Nat}{y:K}{j:Nat}(a:j<P.length)(h:P.getD j 0≠p):dnm X P p y (j+1)=dnm X P p y j*(1-X (P.getD j 0)*y):=by
 unfold dnm;have e:(P.take<|j+1).filter (λk=>decide<|k≠p)=(P.take j).filter (λk=>decide<|k≠p)++[P.getD j 0]:=by
  grind[nF]
 have:=yL (X<|P.getD j 0) (((P.take j).filter λk=>decide<|k≠p).map X) y;simp_all
theorem BD{P:XN}(b:P.Nodup){p:Nat}(c:p ∈ P):(P.filter λk=>decide<|k≠p).length=P.length-1:=by obtain⟨j,a,rfl⟩:=List.getElem_of_mem c;have:=congrArg List.length<|erase_filter (K:=Bool) b a λ_=>true;grind
theorem C3{X:Nat->K}{P:XN}(a:P.Nodup){p:Nat}(b:p ∈ P)(y:K):dnm X P p y P.length=pv (aY<|(P.filter λk=>decide<|k≠p).map X) (P.length-1) y:=by grind[dnm,BD]
theorem Ha{X:Nat->K}{P:XN}(a:P.Nodup){p:Nat}(c:p ∈ P)(b r:Nat)(S:Ser K):ri X b r S P p=hor (tab r<|cv S<|aY<|P.map X) (inv<|X p)*inv (pw (X p) b*dnm X P p (inv<|X p) P.length):=by rw[C3 a c];rfl
def PL{X:Nat->K}{n b:Nat}(d:Places X n){P:XN}(c:P.Nodup)(e:∀i ∈ P,i<n){p:Nat}(a:p ∈ P):pw (X p) b*dnm X P p (inv<|X p) P.length≠0:=by rw[C3 c a];exact mul_ne_zero (cN (d.ne p<|e p a) b) (AZ d c e a).2
theorem Gd(X:K):co [1,-X]=lin X:=by
 funext i
 match i with
 | 0=>rfl
 | 1=>rfl
 | i+2=>rfl
theorem IS(l:List K):co (tab (l.length+1)<|aY l)=aY l:=by
 funext i;rw[dm];split
 .rfl
 .exact(ec l i byO).symm
theorem Eb(l:List K)(X:K):cv (aY l) (lin X)=aY (l++[X]):=by rw[gg,dr]
end
end Go.RS
namespace Go.Proofs.YtgiojnobcjnibaaGreatDoor
open Go.Abs Go.RS
section
variable{H:Heap}{lo:Nat}{n:Nat}
def xy{a b A B:Int}(e:-A<=a)(f:a<=A)(c:0<=b)(g:b<=B)(h:0<=A):-(A*B)<=a*b/\a*b<=A*B:=by have i:a*b<=A*b:=Int.mul_le_mul_of_nonneg_right f c;have j:A*b<=A*B:=Int.mul_le_mul_of_nonneg_left g h;have d:-A*b<=a*b:=Int.mul_le_mul_of_nonneg_right e c;grind
def LQ{s:ByteArray}{k:IntKind}{i:Int}{b:UInt8}(a:0<=i)(c:s[i.toNat]?=some b):aG .idxS [.string s,.int k i] H=some (.int .u8 b.toNat):=by simp[aG,a,c]
def br(n:Nat):Nat:=if n=0 then 0 else n.log2+1
theorem pL{x k:Nat}(h:2^k<=x):br x=k+br (x/2^k):=by
 have a:0<2^k:=Nat.pow_pos byO;have b:x/2^k≠0:=by
  simp_all
 unfold br;have c:=iA b;have i:=dM<|x/2^k;have d:2^((x/2^k).log2+k)<=x:=by
  rw[Nat.pow_add];exact Nat.le_trans (Nat.mul_le_mul_right _ c)<|Nat.div_mul_le_self x _
 have e:x<2^((x/2^k).log2+k+1):=by
  have:x<(x/2^k+1)*2^k:=Nat.lt_mul_of_div_lt byO a;have f:(x/2^k+1)*2^k<=2^((x/2^k).log2+1)*2^k:=Nat.mul_le_mul_right _ byO;grind
 grind[mj]
def eu{n k:Nat}(h:n<2^k):br n<=k:=by
 unfold br;split
 .omega
 next a=>
  have:=Nat.lt_of_le_of_lt (iA a) h;grind[Nat.pow_lt_pow_iff_right]
set_option maxRecDepth 100000 in
def Pe:((List.range 256).all λi=>match Ky[i]? with|some b=>b.toNat==br i|none=>false)=true:=Wf
def Pd{i:Nat}(h:i<256):∃b,Ky[i]?=some b/\b.toNat=br i:=by
 have:=List.all_eq_true.1 Pe i Wy;grind
def nh(n:Nat)(k:Nat)(a:IntKind)(b:k<=a.bits):(n:Int).fdiv (2^(min k a.bits))=((n/2^k:Nat):Int):=Xu
namespace XGa
def xtr:=@Int.cast_ofNat_Int
end XGa
open XGa
def Sd(t:n<2^64):Ev cp lo 211 [.int .u64 n] H λv H'=>H'=H/\v=.int .i64 (br n):=by
 apply stG rfl rfl;unfold Ng;simp[kB,aC];refine lG ?_;have j:=nh n 32 .u64 Wd;apply pz (λa H'=>H=H'/\∃x s:Nat,x<2^32/\s<=32/\br n=s+br x/\a=[.int .u64 x,.int .i64 s])
 .refine Ad ?_ ?_<;>intro h
  .have e:4294967296<=n:=Ws
   clear h;refine lG ?_;exact⟨We,n/2^32,32,byO,byO,pL byO,by simp only[show Int.toNat 32=32 from rfl,j];rfl⟩
  .have e:n<4294967296:=Ws
   clear h;exact⟨We,n,0,byO,byO,byO,rfl⟩
 rintro a H' ⟨rfl,x,s,f,l,c,rfl⟩;have g:=nh x 16 .u64 Wd;apply pz (λa H'=>H=H'/\∃x s:Nat,x<2^16/\s<=48/\br n=s+br x/\a=[.int .u64 x,.int .i64 s])
 .refine Ad ?_ ?_<;>intro h
  .have e:65536<=x:=Ws
   clear h;refine lG ?_;exact⟨We,x/2^16,s+16,byO,byO,by rw[c,pL (k:=16) (x:=x) byO];omega,by simp only[show Int.toNat 16=16 from rfl,g,ap₀];rfl⟩
  .have e:x<65536:=Ws
   clear h;exact⟨We,x,s,byO,byO,byO,rfl⟩
 clear j g f l c;rintro a H' ⟨rfl,x,s,f,l,c,rfl⟩;have r:=nh x 8 .u64 Wd;apply pz (λa H'=>H=H'/\∃x s:Nat,x<2^8/\s<=56/\br n=s+br x/\a=[.int .u64 x,.int .i64 s])
 .refine Ad ?_ ?_<;>intro h
  .have e:256<=x:=Ws
   clear h;refine lG ?_;exact⟨We,x/2^8,s+8,byO,byO,by rw[c,pL (k:=8) (x:=x) byO];omega,by simp only[show Int.toNat 8=8 from rfl,r,ap₀];rfl⟩
  .have e:x<256:=Ws
   clear h;exact⟨We,x,s,byO,byO,byO,rfl⟩
 clear r f l c;rintro a H' ⟨rfl,x,s,f,l,c,rfl⟩;obtain⟨b,o,m⟩:=Pd (show x<256 by omega);have p:=eu f;have d:Ky[(x:Int).toNat]?=some b:=o;have q:=LQ (H:=H) (k:=.u8) (i:=(x:Int)) byO d;clear o d;refine lG ?_;refine Af ?_;refine⟨rfl,?_⟩;rw[c,<-m];rfl
def Un(a:n<2^64):Ev cp lo 200 [.int .u64 n] H λv H'=>H'=H/\v=(br n):=by apply stG rfl rfl;unfold N6;simp[kB,aC];refine lG ?_;refine WZ ?_;refine Ae ?_;apply aB (Sd a);rintro v b ⟨rfl,rfl⟩;refine lG ?_;refine Af ?_;exact⟨rfl,rfl⟩
def degree(a:n<2^63):Ev cp lo 159 [.int .i64 n] H λv H'=>H'=H/\v=.int .i64 ((br n:Nat)-1):=by have c:=eu a;apply stG rfl rfl;unfold NC;simp[kB,aC];refine lG ?_;refine U9 ?_;apply aB (Un (n:=n) byO);rintro v b ⟨rfl,rfl⟩;refine lG ?_;refine Af ?_;exact⟨rfl,rfl⟩
def PrN(n:Nat):Prop:=∀d,2<=d->d*d<=n->n%d≠0
theorem DO(h:2<=n):PrN n↔Pr n:=by
 constructor
 .intro i
  refine⟨h,λd g l c=>?_⟩;have⟨e,b⟩:=c;have j:2<=e:=by
   rcases Nat.lt_or_ge e 2 with a|a
   .have:e=0\/e=1:=byO;grind
   .exact a
  rcases Nat.le_total d e with a|a
  .exact i d g (by simp_all[Nat.mul_le_mul_left]) (by omega)
  .exact i e j (by simp_all[Nat.mul_le_mul_right]) Wx
 .intro i d g k f
  have:d*2<=d*d:=Nat.mul_le_mul_left d g;exact i.2 d g byO<|Nat.dvd_of_mod_eq_zero f
def Sv(u:n<=4096):Ev cp lo 109 [.int .i64 n] H λv H'=>H'=H/\∃b,v=.bool b/\(b=true↔PrN n):=by
 apply stG rfl rfl;unfold M8;simp only[kB,aC];refine lG ?_;apply aj (λm S H'=>∃(d:Nat),2<=d/\d<=n+2/\m=n+3-d/\H=H'/\(∀e,2<=e->e<d->e*e<=n->n%e≠0)/\S=[.int .i64 n,.bool false,.int .i64 d]) (n+1)
 .exact⟨2,byO,byO,byO,rfl,λe g l=>byO,rfl⟩
 rintro m S H' ⟨d,l,r,rfl,rfl,f,rfl⟩;have t:=xy (a:=(d:Int)) (b:=(d:Int)) (A:=5000) (B:=5000) byO byO byO byO byO;(try simp only[aC]);refine Ad ?_ ?_<;>intro h
 .have i:d*d<=n:=Ws
  have p:d<=n:=Nat.le_trans (Nat.le_mul_of_pos_left d byO) i;have c:(n:Int).tmod (d:Int)=((n%d:Nat):Int):=Xz
  refine Ad ?_ ?_<;>intro h
  .have k:n%d=0:=Ws
   refine lG ?_;refine Af ?_;exact⟨rfl,false,rfl,by simp;exact λs=>s d l i k⟩
  .have k:n%d≠0:=Ws
   refine lG ?_;simp only[bJ];refine⟨n+3-(d+1),byO,d+1,byO,byO,rfl,We,λe g j=>?_,ncM⟩;by_cases o:e=d
   .subst o;exact λ_=>k
   .exact f e g byO
 .have i:¬ d*d<=n:=Ws
  refine lG ?_;refine Af ?_;refine⟨rfl,true,rfl,?_⟩;simp[true_iff];intro e g j;refine f e g ?_ j;apply Decidable.byContradiction;intro q;exact i<|Nat.le_trans (Nat.mul_le_mul (show d<=e by omega) (show d<=e by omega)) j
theorem eB(h:n≠0):br n=n.log2+1:=by unfold br;rw[if_neg h]
theorem qR:br 0=0:=rfl
def Bf{p q:Nat}(c:q≠0)(h:p≠0)(g:q.log2<=p.log2):p ^^^ q <<< (p.log2-q.log2)<2^p.log2:=by
 have a:(2:Nat)^(p.log2-q.log2)≠0:=Nat.pos_iff_ne_zero.1<|Nat.pow_pos byO;have j:(q <<< (p.log2-q.log2)).log2=p.log2:=by
  rw[<-jh,Aq c a,mj (Nat.le_refl _)<|Nat.pow_lt_pow_right byO byO];omega
 have b:q <<< (p.log2-q.log2)≠0:=Wx
 refine Nat.lt_pow_two_of_testBit _ λi k=>?_;rw[Nat.testBit_xor];by_cases e:i=p.log2
 .grind[lV]
 .have d:p.testBit i=false:=oE (dM p) i byO
  have f:(q <<< (p.log2-q.log2)).testBit i=false:=oE (dM<|q <<< (p.log2-q.log2)) i byO;rw[d,f];rfl
def jT{a b:Nat}(c:a<2^63)(d:b<2^63):IntKind.i64.wrap ((BitVec.ofInt IntKind.i64.bits (a:Int) ^^^ BitVec.ofInt IntKind.i64.bits (b:Int)).toNat:Int)=((a ^^^ b:Nat):Int):=by rw[show IntKind.i64.bits=64 from rfl,BitVec.ofInt_natCast,BitVec.ofInt_natCast,BitVec.toNat_xor,BitVec.toNat_ofNat,BitVec.toNat_ofNat,Nat.mod_eq_of_lt byO,Nat.mod_eq_of_lt byO];have:a ^^^ b<2^63:=Nat.xor_lt_two_pow c d;grind[wrap_i64]
def lh{a k:Nat}(h:a*2^k<2^63)(b:k<=62):IntKind.i64.wrap ((a:Int)*2^(min k IntKind.i64.bits))=((a <<< k:Nat):Int):=by
 rw[show IntKind.i64.bits=64 from rfl,Nat.min_eq_left byO,Nat.shiftLeft_eq];grind[wrap_i64]
def JW{q a b:Nat}(h:q<2^b):q <<< a<2^(b+a):=by simp_all[Nat.shiftLeft_eq,Nat.pow_add,Nat.pow_pos]
def FF{p q:Nat}(G:p<2^62)(J:q<2^62)(d:q≠0):Ev cp lo 201 [.int .i64 p,.int .i64 q] H λv H'=>H'=H/\v=.int .i64 (rm p q):=by
 have j:=eB d;have r:=eu J;apply stG rfl rfl;unfold N7;simp[kB,aC];refine lG ?_;apply aj (λm S H'=>∃(x:Nat) (t u w y z A:Value),x<2^62/\m=x/\H=H'/\rm x q=rm p q/\S=[.int .i64 x,.int .i64 q,.int .i64 0,t,u,w,y,z,A]) p
 .exact⟨p,_,_,_,_,_,_,G,rfl,rfl,rfl,rfl⟩
 rintro m S H' ⟨x,t,u,w,y,z,A,K,rfl,rfl,e,rfl⟩;have D:=eu K;refine Ae ?_;apply aB (degree (n:=m) byO);rintro v B ⟨rfl,rfl⟩;refine Ae ?_;apply aB (degree (n:=q) byO);rintro v C ⟨rfl,rfl⟩;(try simp only[aC]);refine Ad ?_ ?_<;>intro h
 .have g:br q<=br m:=Ws
  clear h;have c:m≠0:=by rintro rfl;rw[qR]at g;omega
  have i:=eB c;have s:=Bf d c byO;have F:=iA c;have L:((br m:Nat):Int)-1-((br q:Nat)-1)=((m.log2-q.log2:Nat):Int):=byO;have o:q <<< (m.log2-q.log2)<2^(q.log2+1+(m.log2-q.log2)):=JW<|dM q;have I:2^(q.log2+1+(m.log2-q.log2))<=2^62:=Nat.pow_le_pow_right byO byO;have f:=o;rw[Nat.shiftLeft_eq]at f;have M:=lh (a:=q) (k:=m.log2-q.log2) byO byO;have N:=jT (a:=m) (b:=q <<< (m.log2-q.log2)) byO byO;refine Ae ?_;apply aB (degree (n:=m) byO);rintro v B ⟨rfl,rfl⟩;refine Ae ?_;apply aB (degree (n:=q) byO);rintro v C ⟨rfl,rfl⟩;clear i j;refine lG ?_;simp only[bJ];exact⟨m ^^^ q <<< (m.log2-q.log2),byO,_,_,_,_,_,_,_,byO,rfl,We,by rw[<-e,<-jh,Bi d],rfl⟩
 .have g:br m<br q:=Ws
  have l:rm m q=m:=by
   apply kI d;by_cases c:m=0
   .rw[c];exact Nat.pow_pos byO
   .rw[eB c]at g
    exact bd₀ (dM m)<|Nat.pow_le_pow_right byO byO
  rw[l]at e;refine lG ?_;refine Af ?_;exact⟨rfl,by rw[<-e];rfl⟩
def DX{p t:Nat}(b:t≠0):rm p t=0↔∃m,p=cl t m:=by
 constructor
 .have⟨m,a⟩:=wb b p;grind
 .rintro⟨m,rfl⟩
  exact AL b (Nat.pow_pos byO) (m:=m) Wx
def zi{a b:Nat}(h:a<=b)(c:a≠0):a.log2<=b.log2:=by have d:=iA c;have e:=dM b;have:2^a.log2<2^(b.log2+1):=byO;grind[Nat.pow_lt_pow_iff_right]
def irreducible{p:Nat}(y:p<2^62)(G:2<=p):Ev cp lo 160 [.int .i64 p] H λv H'=>H'=H/\∃b,v=.bool b/\(b=true↔Irr p):=by
 have k:=eB (n:=p) byO;have d:=eu y;apply stG rfl rfl;unfold ND;simp only[kB,aC];refine lG ?_;apply aj (λm S H'=>∃(q:Nat) (A B C D:Value),2<=q/\q<=p+1/\m=p+2-q/\H=H'/\(∀t,2<=t->t<q->2*t.log2<=p.log2->¬ ∃m,p=cl t m)/\S=[.int .i64 p,.bool false,.int .i64 q,A,B,C,D]) p
 .exact⟨2,_,_,_,_,byO,byO,byO,rfl,λt c G=>byO,rfl⟩
 rintro m S H' ⟨q,A,B,C,D,i,M,rfl,rfl,g,rfl⟩;have a:q≠0:=byO;have l:=eB a;have f:=eu (show q<2^63 by omega);refine Ae ?_;apply aB (degree (n:=q) byO);rintro v F ⟨rfl,rfl⟩;refine Ae ?_;apply aB (degree (n:=p) byO);rintro v N ⟨rfl,rfl⟩;clear f d;have w:br q<=q.log2+1/\q.log2+1<=br q:=byO;have s:br p<=p.log2+1/\p.log2+1<=br p:=byO;have x:=eu (show q<2^63 by omega);have u:=eu (show p<2^63 by omega);clear l k;(try simp only[aC]);refine Ad ?_ ?_<;>intro h
 .have r:2*q.log2<=p.log2:=Ws
  clear h;have K:q<p:=by
   have c:=pO i;have j:=dM q;have O:2^(q.log2+1)<=2^p.log2:=Nat.pow_le_pow_right byO byO;have P:=iA (show p≠0 by omega);omega
  refine Ae ?_;apply aB (FF (p:=p) (q:=q) y byO a);rintro v F ⟨rfl,rfl⟩;have z:=DX (p:=p) a;(try simp only[aC]);refine Ad ?_ ?_<;>intro h
  .have o:rm p q=0:=Ws
   clear h;refine lG ?_;refine Af ?_;exact⟨rfl,false,rfl,by simp;exact λJ=>J q i r<|z.1 o⟩
  .have o:rm p q≠0:=Ws
   clear h;refine lG ?_;simp only[bJ];refine⟨p+2-(q+1),byO,q+1,_,_,_,_,byO,byO,rfl,We,λt c j=>?_,ncM⟩;by_cases e:t=q
   .subst e;exact λ_ L=>o<|z.2 L
   .exact g t c byO
 .have r:p.log2<2*q.log2:=Ws
  clear h;refine lG ?_;refine Af ?_;refine⟨rfl,true,rfl,?_⟩;simp only[true_iff];intro t c j;refine g t c ?_ j;apply Decidable.byContradiction;intro I;have:=zi (show q<=t by omega) a;omega
end
def Oi(k:IntKind)(a b c a' d c':Int):aN [1,1,1] [.int k a,.int k b,.int k c] [.int k a',.int k d,.int k c']=some (decide (a=a')&&(decide (b=d)&&decide (c=c'))):=by
 grind[aN,gp]
def mf(b:Bool):(if b=true then some true else some false)=some b:=by cases b<;>rfl
def me(b:Bool):(if b=false then some true else some false)=some (!b):=by cases b<;>rfl
def md{p:Prop}[Decidable p]:(if p then some false else some true)=some (!decide p):=by by_cases h:p<;>simp[h]
def fv(ch sz po:Int):Value:=.agg #[ch,sz,po]
def FD.ch(f:FD):Nat:=if f.poly=0 then f.q else 2
def fvf(f:FD):Value:=fv (FD.ch f) f.q f.poly
def OkF(ch sz po:Int)(f:FD):Prop:=f.Ok/\sz=f.q/\po=f.poly/\ch=FD.ch f
namespace XGb
def xtr:=zzi @Int.cast_ofNat_Int<|zzi @Oi<|zzi @mf<|zzi @me @md
end XGb
open XGb
set_option maxHeartbeats 1000000 in
def valid{lo:Nat}{H:Heap}{ch sz po:Int}(z:po<=9223372036854775807):Ev cp lo 111 [fv ch sz po] H λv H'=>Ext H H'/\∃b,v=.bool b/\(b=true↔∃f,OkF ch sz po f):=by
 unfold fv;apply stG rfl rfl;unfold M9;simp only[kB,aC];refine aA ?_;refine aK ?_ ?_<;>intro h
 .have t:po=0:=Wy
  clear h;subst t;(try simp only[aC]);apply aU aM dY aM<;>intro h
  .have l:2<sz/\sz<=4096/\ch=sz:=Ws
   obtain⟨n,G⟩:∃n:Nat,(n:Int)=sz:=⟨sz.toNat,byO⟩;refine⟨_,aM,?_⟩;apply aB (by rw[<-G];exact Sv (n:=n) byO);rintro v C ⟨rfl,b,rfl,z⟩;clear h;refine aA ?_;refine aL ?_;refine⟨Ext.app _ _,b,?_,?_⟩
   .have M:((decide (2<sz)&&decide (sz<=4096))&&((decide (ch=sz)&&(decide (sz=sz)&&decide ((0:Int)=0))) != false))=true:=Wr
    simp[aR,l]
   .rw[z,DO byO]
    constructor
    .intro o
     exact⟨⟨n,0⟩,.inl ⟨rfl,Wr,Wr,o⟩,Wr,rfl,by simp[FD.ch];omega⟩
    .rintro⟨f,e,g,i,d⟩
     rcases e with ⟨c,j,m,q⟩|⟨c,j,_⟩
     .have:f.q=n:=byO
      rw[<-this];exact q
     .exfalso;omega
  .have l:¬ (2<sz/\sz<=4096/\ch=sz):=by
    rintro⟨g,i,d⟩;simp[g,i,d]at h
   refine aA ?_;refine aL ?_;refine⟨Ext.app _ _,false,rfl,?_⟩;simp only[ah₀,false_iff];rintro⟨f,e,g,i,d⟩;apply l;rcases e with ⟨c,j,m,q⟩|⟨c,j,_⟩
   .unfold FD.ch at d;rw[if_pos c]at d;omega
   .omega
 have t:¬ po=0:=Wy
 clear h;(try simp only[aC]);by_cases s:po<2
 .refine aU aM dY aM (λh=>by simp[s]at h) λh=>?_
  clear h;(try simp only[aC]);refine M1 ?_;refine aA ?_;refine aL ?_;refine⟨Ext.app _ _,false,rfl,?_⟩;simp only[ah₀,false_iff];rintro⟨f,e,g,i,d⟩;rcases e with ⟨c,j,m,q⟩|⟨c,j,_⟩
  .omega
  .omega
 obtain⟨p,o⟩:∃p:Nat,(p:Int)=po:=⟨po.toNat,byO⟩;have x:=eB (n:=p) byO;have B:=eu (show p<2^63 by omega);have A:br p<=p.log2+1/\p.log2+1<=br p:=byO;have F:=pO (p:=p) byO;clear x;refine aU aM dY aM (λh=>⟨_,aM,?_⟩) (λh=>by simp[s]at h);clear h;refine aB (by rw[<-o];exact degree (n:=p) byO) ?_;rintro v C ⟨rfl,rfl⟩;(try simp only[aC]);refine aK ?_ ?_<;>intro h
 .have l:12<p.log2:=Ws
  clear h;refine aA ?_;refine aL ?_;refine⟨Ext.app _ _,false,rfl,?_⟩;simp only[ah₀,false_iff];rintro⟨f,e,g,i,d⟩;rcases e with ⟨c,j,m,q⟩|⟨c,j,m,_⟩
  .omega
  .have:f.poly=p:=byO
   rw[this]at m;omega
 have l:p.log2<=12:=Ws
 clear h;refine bV ?_;refine aS (by rw[<-o];exact degree (n:=p) byO) ?_;rintro v K ⟨rfl,rfl⟩;have j:(((br p:Nat):Int)-1).toNat=p.log2:=byO;have m:=lh (a:=1) (k:=p.log2) (by
  have:2^p.log2<=2^12:=Nat.pow_le_pow_right byO l;omega) byO
 have q:IntKind.i64.wrap (1*2^min p.log2 IntKind.i64.bits)=((2^p.log2:Nat):Int):=by
  rw[show(1:Int)=((1:Nat):Int) from rfl,m,Nat.shiftLeft_eq,Nat.one_mul]
 have J:2^p.log2<=2^12:=Nat.pow_le_pow_right byO l;have I:p<2^13:=bd₀ (dM p)<|Nat.pow_le_pow_right byO byO;generalize y:2^p.log2=Q at *;(try simp only[aC]);refine aU aM dY aM ?_ ?_<;>intro h
 .have r:ch=2/\sz=(Q:Int):=Ws
  refine⟨_,aM,?_⟩;refine aB (by rw[<-o];exact irreducible (p:=p) byO byO) ?_;rintro v L ⟨rfl,b,rfl,u⟩;refine aA ?_;refine aL ?_;refine⟨Ext.app _ _,b,XT,?_⟩;rw[u];constructor
  .intro w
   exact⟨⟨Q,p⟩,.inr ⟨Wr,Wr,l,y.symm,w⟩,Wr,Wr,by show ch=((if p=0 then Q else 2:Nat):Int);rw[if_neg byO];omega⟩
  .rintro⟨f,e,g,i,d⟩
   rcases e with ⟨c,_⟩|⟨_,_,_,_,w⟩
   .omega
   .have:f.poly=p:=byO
    rw[<-this];exact w
 .have r:¬ (ch=2/\sz=(Q:Int)):=by
   rintro⟨g,i⟩;simp[g,i,o]at h
  refine aA ?_;refine aL ?_;refine⟨Ext.app _ _,false,XT,?_⟩;simp only[ah₀,false_iff];rintro⟨f,e,g,i,d⟩;apply r;rcases e with ⟨c,_⟩|⟨c,_,_,D,_⟩
  .omega
  .have:f.poly=p:=byO
   rw[this,y]at D;unfold FD.ch at d;rw[if_neg c]at d;omega
end Go.Proofs.YtgiojnobcjnibaaGreatDoor
