/- Lemmas. -/
import Derived.Test.YtgiojnobcjnibaaGreatDoorH17
set_option linter.all false
def Wu{P:Prop}(h:P:=by simp only[ai₀]at h;omega):P:=h
def Wv{P:Prop}(h:P:=by first|rfl|(subst_vars;rfl)):P:=h
def X4{P:Prop}(h:P:=by simp[punT];omega):P:=h
namespace Go.Proofs.YtgiojnobcjnibaaGreatDoor
open Go.Abs
section
variable{H:Heap}{lo:Nat}
set_option maxRecDepth 20000
namespace XKTf
def xtr:=zzi @Int.cast_ofNat_Int<|zzi @ite_self.{1} @List.length_replicate
end XKTf
open XKTf
def Bv(N:lo<=H.length):Ev cpT lo 23 [] H λr H'=>r=.pointer (some ⟨H.length,0,none⟩)/\H'=H++[some tabV]:=by
 have B:=wy;have C:(List.replicate 1458<|Value.int .i64 0).length=1458:=Wc
 have J:Heap.get (H++[some<|List.replicate 1458<|Value.int .i64 0]) H.length=some (List.replicate 1458<|Value.int .i64 0):=aX _ _;have Q:=ui H (some<|List.replicate 1458<|Value.int .i64 0)<|some<|(List.replicate 1458<|Value.int .i64 0).set 1296<|.int .i64 1;apply W5;unfold O2 GV;simp only[kB,aC];generalize List.replicate 1458 (Value.int .i64 0)=Z at *;refine aF ?_;generalize Z.set 1296 (.int .i64 1)=t at *;clear J Q C;apply aP (λm S H'=>m<=8/\∃a,H'=H++[some a]/\(m=0/\TabF a (fP 7 0)\/0<m/\TabF a (fP (8-m) 162))/\∃(z:Nat->Value),S=[z 0,.pointer<|some ⟨H.length,0,none⟩,.int .i64<|((8-m:Nat):Int)-1,z 3,z 4,z 5,z 6,z 7,z 8,z 9,z 10,z 11]) 8
 .exact⟨Nat.zero_le _,t,rfl,.inl ⟨rfl,B⟩,aH rfl⟩
 .rintro m S H' O ⟨-,a,rfl,-,z,rfl⟩
  exact⟨_,bR,Wr⟩
 .clear B
  rintro m S H' O ⟨-,a,rfl,b,z,rfl⟩;obtain⟨k,y⟩:∃k,8-m=k+1:=⟨7-m,byO⟩;have g:k<8:=byO;have f:8-(m+1)=k:=byO;have b:TabF a<|fP k 0:=by
   rcases b with ⟨L,p⟩|⟨L,p⟩
   .have:k=7:=byO
    subst this;exact p
   .rw[y]at p;exact p.congr λi _=>Hd i
  have D:(((k+1:Nat):Int))-1=(k:Nat):=byO;rw[y,D];clear y D;replace f:=Wa f;refine aF ?_;refine aP (λs S H'=>∃a,H'=H++[some a]/\TabF a (fP k<|9*s)/\∃(z:Nat->Value),S=[z 0,.pointer<|some ⟨H.length,0,none⟩,.int .i64 k,z 3,z 4,z 5,.int .i64 s,z 7,z 8,z 9,z 10,z 11]) 18 ?_ ?_ ?_ ?_
  .exact⟨a,rfl,b,aH rfl⟩
  .rintro s S H' A ⟨a,rfl,-,z,rfl⟩
   exact⟨_,bR,Wr⟩
  .clear b
   rintro s S H' A ⟨a,rfl,b,z,rfl⟩;refine aF ?_;apply aP (λc S H'=>∃a,H'=H++[some a]/\TabF a (fP k<|9*s+c)/\∃(z:Nat->Value),S=[z 0,.pointer<|some ⟨H.length,0,none⟩,.int .i64 k,.int .i64 s,z 4,z 5,.int .i64 s,.int .i64 c,z 8,z 9,z 10,z 11]) 9
   .exact⟨a,rfl,b,aH rfl⟩
   .rintro c S H' v ⟨a,rfl,-,z,rfl⟩
    exact⟨_,bR,Wr⟩
   .clear b
    rintro c S H' v ⟨a,rfl,b,z,rfl⟩;refine aF ?_;refine aP (λw S H'=>∃a,H'=H++[some a]/\TabF a (fW k (9*s+c)<|cE k s c w)/\∃(z:Nat->Value),S=[z 0,.pointer<|some ⟨H.length,0,none⟩,.int .i64 k,.int .i64 s,.int .i64 c,.int .i64 ((w+1:Nat):Int),.int .i64 s,.int .i64 c,z 8,z 9,z 10,z 11]) 6 ?_ ?_ ?_ ?_
    .exact⟨a,rfl,b.congr λi _=>zI byO i,aH rfl⟩
    .rintro w S H' P ⟨a,rfl,-,z,rfl⟩
     exact⟨_,bR,Wr⟩
    .clear b
     rintro w S H' P ⟨a,rfl,b,z,rfl⟩;have o:=Hf b g byO;have M:=b.1;have x:Heap.get (H++[some a]) H.length=some a:=aX _ _;have j:=b.2 (162*k+(9*s+c)) byO;have n:fW k (9*s+c) (cE k s c w) (162*k+(9*s+c))=cE k s c w:=by unfold fW;rw[if_pos rfl]
     rw[n]at j;have u:162*k+(9*s+c)=k*162+s*9+c:=byO;rw[u]at j;have d:TabF (a.set (k*162+s*9+c)<|.int .i64 ((cE k s c (w+1):Nat):Int))<|fW k (9*s+c)<|cE k s c<|w+1:=by
      refine b.set byO λi R=>?_;unfold fW;rw[<-u];by_cases q:i=162*k+(9*s+c)
      .rw[if_pos q,if_pos q]
      .rw[if_neg q,if_neg q,if_neg q]
     have e:cE k s c (w+1)=cE k s c w+bhd k s c (w+1):=rfl;have F:cE k s c w<=100000000/\bhd k s c (w+1)<=100000000:=by
      have:=nm k s c w;have:=sV k s c<|w+1;omega
     replace e:=Wa e;replace d:=Wa d;clear u n b;refine iU ?_;refine rX rfl<|(CM x o g A v byO byO).mono ?_;rintro r K ⟨rfl,rfl⟩;refine⟨?_,?_⟩
     .simp only[List.take_succ_cons,List.take_zero,List.all_cons,List.all_nil,Bool.and_true,ac₀]
      exact zd rfl x x
     have G:((cE k s c w:Nat):Int)+((bhd k s c (w+1):Nat):Int)=((cE k s c (w+1):Nat):Int):=by rw[Wb e];omega
     have I:(H++[some a]).set H.length (some<|a.set (k*162+s*9+c)<|.int .i64 ((cE k s c (w+1):Nat):Int))=H++[some<|a.set (k*162+s*9+c)<|.int .i64 ((cE k s c (w+1):Nat):Int)]:=ui _ _ _;refine aF ?_;exact⟨_,We,Wb d,aH ncM⟩
    clear b;rintro S H' ⟨a,rfl,b,z,rfl⟩;refine aF ?_;exact⟨a,rfl,b.congr<|He g A v,aH ncM⟩
   clear b;rintro S H' ⟨a,rfl,b,z,rfl⟩;refine aF ?_;exact⟨a,rfl,by rw[show 9*(s+1)=9*s+9 by omega];exact b,aH ncM⟩
  clear b;rintro S H' ⟨a,rfl,b,z,rfl⟩;refine aF ?_;exact⟨byO,a,We,.inr ⟨byO,by rw[Wb f];exact b⟩,aH (by rw[Wb f];rfl)⟩
 clear B;rintro S H' ⟨-,a,rfl,b,z,rfl⟩;have l:=Da (b.resolve_left λh=>by omega).2;subst l;refine aF ?_;refine bD ?_;exact⟨rfl,rfl⟩
def RG:Sub cp cpS:=λf cf h=>by
 unfold cpS;split
 next e=>subst e;cases h
 .exact h
def TR:Sub cpT cpS:=λf cf h=>RG f cf<|y6 f cf h
def F0:∃N,∀(lo:Nat) (H:Heap),lo<=H.length->∀m,N<=m->run cpS m lo 23 [] H=some (.inl<|.pointer<|some ⟨H.length,0,none⟩,H++[some tabV]):=by obtain⟨M,v,p,d,-,-⟩:=Bv (lo:=0) (H:=[])<|Nat.le_refl _;refine⟨M,λlo H g m n=>?_⟩;have j:=d M<|Nat.le_refl _;obtain⟨r',o,f,-,-⟩:=od (k:=mv0 H.length) Q8 M 0 lo 23 [] [] [] H _ _ ⟨Nat.le_refl _,by simp[mv0];omega⟩ ⟨rfl,Wc⟩ ⟨by simp[mv0],λi c l=>by simp[Heap.get]at l⟩ j;obtain⟨e,r,q,h,rfl,rfl⟩:=Bv (lo:=lo) (H:=H) g;have a:=l9 (Nat.le_max_left M e) _ _ _ _ _ f;have b:=h (max M e)<|Nat.le_max_right M e;rw[a]at b;injection b with b;rw[b]at f;exact sL TR m _ _ _ _ _<|l9 n _ _ _ _ _ f
def MQ:putCells tabV 0 [.int .i64 0]=tabV:=Wf
def subO:∃N,Js N cpO cpS:=by
 have⟨N,j⟩:=F0;refine⟨N+100,λf cf h=>?_⟩;unfold cpO at h;split at h
 next e=>
  subst e;cases h
  refine .inr ⟨rfl,λn lo args H r b m q=>?_⟩;unfold run at b;rw[show cpO 23=some CR from rfl]at b
  match args with
  | []=>
   have k:tabL.map (λn=>Value.int .i64<|.ofNat n)=tabV:=rfl;have p:=MQ;have d:(Value.int .i64 0).cells=#[Value.int .i64 0]:=rfl;have i:oneCells [Value.int .i64 0]=true:=rfl;have o:1<=tabV.length:=Nat.le_of_ble_eq_true Wf;simp only[CR,ak₀,an₀,exec,evSets,ev1,k]at b;have g:Heap.get (H++[some tabV]) H.length=some tabV:=aX _ _;have c:(H++[some tabV]).set H.length (some tabV)=H++[some tabV]:=ui _ _ _;generalize tabV=T at *;by_cases a:lo<=H.length
   .rw[j lo H a m byO]
    simp[ev,setAll,evChk,holds,hsem,Heap.put,evList,ev1,g,p,a,c,aR,d,i,o]at b;rw[b]
   .exfalso
    simp[ev,setAll,evChk,holds,hsem,Heap.put,ct,a,g,d,i]at b
  | x::l=>simp[CR]at b
 .split at h
  .cases h
  .exact .inl h
def Fl(a:lo<=H.length):Ev cpS lo 9 [] H λv H'=>Ext H H'/\v=.bool true:=by have⟨N,b⟩:=subO;have h:Ev cpO lo 9 [] H λv H'=>Ext H H'/\v=.bool true:=tR (args:=[]) uT Wo tA rfl rfl a;exact h.subO b
noncomputable def cpx(f:FuncId):Option CF:=if f=208 then some ⟨1,0,[],.skip,.prim g45⟩ else cp f
def D4:Sub cp cpx:=λf cf h=>by
 unfold cpx;split
 next e=>subst e;cases h
 .exact h
def VH{v:Value}{N:Nat}(c:IsN H v N)(a:(ba N).length<=512)(b:H.get 0=some jG):Ev cpx lo 208 [v] H λr H'=>r=eI (BF N)/\H'=H:=
 tS rfl rfl rfl (PX c a b) ⟨rfl,rfl⟩
def W6{R:Wq}{a:Value}(h:wpS cpx lo O5 (yl cpx lo QM 8 Qq cf50.res R) [a,undef,undef,undef,undef,undef,undef,undef,undef,undef] H):Ev cpx lo 50 [a] H R:=EH (cf:=cf50) rfl rfl rfl h
def vJ:Nat->Nat->XN
 | 0,_=>[]
 | m+1,r=>vJ m (r/10)++[r%10]
theorem yy{N:Nat}(h:N≠0):dec N=dec (N/10)++[N%10]:=by
 have:=yx (a:=N/10) (b:=N%10) (Nat.mod_lt _ Wd) byO
 grind
theorem CZ{M:Nat}(c:M≠0):∀(m r:Nat),r<10^m->dec (M*10^m+r)=dec M++vJ m r
 | 0,r,h=>by
  grind[vJ]
 | m+1,r,h=>by
  have b:r/10<10^m:=byO;have d:M*10^(m+1)=(M*10^m)*10:=Xu
  have a:M*10^(m+1)+r≠0:=by
   have:0<M*10^(m+1):=Nat.mul_pos byO<|Nat.pow_pos Wd;omega
  rw[yy a,show(M*10^(m+1)+r)/10=M*10^m+r/10 by omega,show(M*10^(m+1)+r)%10=r%10 by omega,CZ c m _ b,vJ,ba₀]
theorem PF:∀(u:Nat),u≠0->Lib.decDigits u=eH (dec u):=by
 intro u
 induction u using Nat.strongRecOn with
 | _ u a=>
  grind[yy,Lib.decDigits,mP,eH]
theorem zu:∀m,eH (vJ m 0)=List.replicate m 48
 | 0=>rfl
 | m+1=>by
  have a:=zu m
  grind[List.replicate_succ',vJ,eH]
def Gz:∀(m g:Nat),0<m->g<10^m->List.replicate (m-(Lib.decDigits g).length) 48++Lib.decDigits g=eH (vJ m g)
 | m+1,g,_,h=>by
  rw[Lib.decDigits];by_cases a:g<10
  .rw[dif_pos a,vJ,show g/10=0 by omega,show g%10=g by omega]
   grind[zu,eH]
  .have b:0<m:=by
    grind
   have c:=Gz m (g/10) b byO
   grind[vJ,eH]
theorem L7{g:Nat}(h:g<1000000000):nine g=eH (vJ 9 g):=Gz 9 g byO byO
theorem uN{f g:Nat->Nat}(h:∀j,f (j+1)=g j)(n:Nat):∀k,k<=n->oC f (n+1) k=oC g n k
 | 0,_=>rfl
 | k+1,a=>by
  simp[oC];rw[uN h n k byO]
  grind
theorem Lg:∀(N:Nat),N≠0->oC (λj=>(dZ 1000000000 N).getD j 0) (dZ 1000000000 N).length (dZ 1000000000 N).length=eH (dec N):=by
 intro N
 induction N using Nat.strongRecOn with
 | _ N b=>
  intro h;have d:=dF (B:=1000000000) byO h;by_cases k:N<1000000000
  .grind[cQ,oC,PF]
  .have a:N/1000000000≠0:=byO
   have c:N%1000000000<1000000000:=Nat.mod_lt _ byO;have b:=b (N/1000000000) byO a;have i:=dF (B:=1000000000) byO a;rw[d];generalize l:dZ 1000000000 (N/1000000000)=G at *;have m:0<G.length:=by rw[i];simp
   simp only[ak₀];have:=uN (f:=λj=>(N%1000000000::G).getD j 0) (g:=λj=>G.getD j 0) (λj=>rfl) G.length G.length<|Nat.le_refl _;rw[oC,this,if_neg byO,b,show G.length+1-1-G.length=0 by omega];simp ;rw[L7 c];have e:=CZ a 9 (N%1000000000) byO
   grind[eH]
theorem KW{N:Nat}(h:N≠0):BF N=eH (dec N):=by grind[BF,Lg]
end
variable{H:Heap}{lo:Nat}{v:Value}
def bT(b:UInt8):Value:=.int .u8 (b.toNat:Nat)
def uz{cp:Wl}{A lo:Nat}{b:Nat}{l m:XU}{z:XV}{R:Wq}(c:lo<=H.length)(D:A<=b)(a:A<=H.length)
  (t:Own lo 1 H v b<|l.map bT) (u:l.length+m.length<=4294967296)
  (k:∀B H' w,A<=w->Own lo 1 H' B w ((l++m).map bT)->Keep b H H'->R B H'):wpH cp lo (.appS z) [v,eI m] H R:=by
 have C:bh lo (.appS z) [v,eI m] H=aV lo 1 v (m.map bT) m.length H:=by
  simp[bh,hsem,eI];rw[iF];rfl
 simp[wpH];rw[C];by_cases x:m=[]
 .subst x
  have y:=k v H b D (by simpa using t) ⟨Nat.le_refl _,λ_ _ _=>rfl⟩;obtain⟨j,⟨rfl,_⟩|⟨n,I,d,rfl,f⟩⟩:=t
  .simp[aV,an₀,Nat.add_zero,Nat.le_refl,if_true];exact y
  .simp only[aV,an₀,al₀,Nat.add_zero,Nat.le_refl,if_true,or_true]
   rw[nf f j Xl];have:putCells (l.map bT) (0+n*1) []=l.map bT:=XM
   rw[this,gI f];exact y
 .have q:0<m.length:=List.length_pos_iff.2 x
  obtain⟨j,⟨rfl,G⟩|⟨n,I,d,rfl,f⟩⟩:=t
  .have p:l=[]:=by simpa using G
   subst p;have g:¬ (0+m.length<=0):=byO;have h:¬ (cT<0+m.length):=by unfold cT;simp at u;omega
   simp only[aV,g,h,if_false,if_true];refine k _ _ H.length a ⟨c,.inr ⟨m.length,q,Wc,rfl,by rw[aI];simp⟩⟩ ⟨Wc,λi o _=>fT o⟩
  .have s:n=l.length:=XL
   subst s;have g:¬ (l.length+m.length<=l.length):=byO;have h:¬ (cT<l.length+m.length):=by unfold cT;omega
   have F:H.cells b 0 (l.length*1)=some (l.map bT):=by
    rw[cells_get f Wc,Nat.mul_one,List.drop_zero];rw[show l.length=(l.map bT).length by simp,List.take_length]
   simp only[aV,g,h,if_false,j,and_self,if_true,F,Option.map_some];refine k _ _ H.length a ⟨c,.inr ⟨l.length+m.length,byO,Wc,rfl,?_⟩⟩ ⟨Wc,λi o r=>?_⟩
   .have:(H.set b none).length=H.length:=Wc
    rw[<-this,aI,List.map_append]
   .rw[fT Yj,aQ λe=>r e.symm]
theorem qC:∀l:XU,bytesOf (l.map bT)=some l
 | []=>rfl
 | b::l=>by
  have a:=qC l
  simp_all[bytesOf,bT]
def LG{b:Nat}{l:XU}(h:Own lo 1 H v b<|l.map bT):aG .b2s [v] H=some (eI l):=by
 obtain⟨_,⟨rfl,e⟩|⟨n,f,d,rfl,c⟩⟩:=h
 .have:l=[]:=Wx
  subst this;rfl
 .have a:n=l.length:=Wx
  subst a;simp[aG];rw[cells_get c Wc]
  grind[qC]
def eO{j:Type}{enc:j->Value}{G:Heap}{l:List j}{a b:Nat}{x y:Int}(h:Sl enc G v l)(q:x=a)(s:y=b)(m:a<=b)(n:b<=l.length):∃r,(∀H',aG (.sl 1 true true false) [v,.int .i64 x,.int .i64 y] H'=some r)/\Sl enc G r ((l.drop a).take<|b-a):=by
 subst q s;have e:((l.drop a).take<|b-a).length=b-a:=Wr
 rcases h with ⟨rfl,rfl⟩|⟨g,o,sp,d,xs,rfl,k,u,w,i,z⟩
 .simp at n
  obtain rfl:b=0:=byO;obtain rfl:a=0:=byO;exact⟨_,λH'=>by rfl,.inl ⟨rfl,rfl⟩⟩
 .have t:∀o',(o'=o+a\/b-a=0/\o'=o)->∀c,c=sp->Sl enc G (.slice (some ⟨g,o',c⟩) (b-a)<|d-a) ((l.drop a).take<|b-a):=by
   intro o' p c f;subst f;refine .inr ⟨g,o',c,d-a,xs,by rw[e],k,?_,byO,i,byO⟩
   grind[List.map_take,List.map_drop,List.drop_take,List.drop_drop]
  rcases i with rfl|rfl
  .refine⟨_,λH'=>by rw[xp,rq byO byO byO];rfl,?_⟩
   grind
  .refine⟨_,λH'=>by rw[xn,rq byO byO byO];rfl,?_⟩
   simp_all
theorem lZ{b:Bool}{p:XN}:kX b p=true↔p.getD 0 0≠0/\(dec<|aa 900 p).getD 0 0=1/\2<=(dec<|aa 900 p).length/\(dec<|aa 900 p).length<=45/\(b=true\/(dec<|aa 900 p).length=45):=by grind[kX]
def qT{b:Bool}{p:XN}(h:¬ (p.getD 0 0≠0/\(dec<|aa 900 p).getD 0 0=1/\2<=(dec<|aa 900 p).length/\(dec<|aa 900 p).length<=45/\(b=true\/(dec<|aa 900 p).length=45))):kX b p=false:=by grind[lZ]
open XCSg
def Sz{l:XN}(y0:lo<=H.length)(hl:SlN H v l)(hb:l.length<=8192)(hd:∀d ∈ l,d<900)(ht:H.get 0=some jG) :
  Ev cpx lo 189 [v] H λr H'=>Ext H H'/\r=match fS l with|some t=>.tuple #[eI t,.bool true]|none=>.tuple #[eI [],.bool false]:=by
 have o1:=hl;obtain⟨ad,c0,rfl⟩:=hl.len;apply stG rfl rfl;unfold NX;simp only[kB,aC];refine aA ?_;apply aj (λm S H'=>Ext H H'/\∃(a:Nat) (D:XU) (w:Value) (b:Nat),(l.length<=m+a/\(a<=l.length->m+a<=l.length))/\(fS l=(fS<|l.drop a).map (D++·)\/False)/\H.length<=b/\Own lo 1 H' w b (D.map bT)/\D.length<=45*a/\a<=8300/\(∃(z:Nat->Value),S=[.slice ad l.length c0,z 1,z 2,w,.int .i64 a,z 5,z 6,z 7,z 8,z 9,z 10,z 11,z 12])) l.length
 .exact⟨Ext.refl _,0,[],_,H.length,byO,.inl Wc,Nat.le_refl _,Own.nil y0,Wc,byO,aH rfl⟩
 rintro m S H' ⟨O,a,D,w,b,hm,hs,U,ho,hD,ha,z,rfl⟩;have e1:=O.1;by_cases hi:a<l.length
 .obtain⟨e,he⟩:∃e,min (a+15) l.length=e:=⟨_,rfl⟩
  have k1:a<e/\e<=l.length/\e<=a+15:=byO;have P:aG (.minmax false) [.int .i64<|(a:Int)+15,.int .i64 l.length] H'=some (.int .i64 e):=by
   simp only[aG,List.foldlM_cons,List.foldlM_nil,ml,ah₀,if_false];by_cases h:(l.length:Int)<(a:Int)+15
   .rw[if_pos h];simp;omega
   .rw[if_neg h];simp;omega
  obtain⟨b0,o0,q1,Y0,r1,e0,m1,S0,b1⟩:=(hl.mono O).els 0 byO;cases e0;have p1:=S0 a hi;obtain⟨p,M⟩:∃p,(l.drop a).take 15=p:=⟨_,rfl⟩;have Z:(l.drop a).take (e-a)=p:=by
   rw[<-M];rcases Nat.le_total (a+15) l.length with h|h
   .congr 1;omega
   .rw[List.take_of_length_le Wr,List.take_of_length_le Wr]
  have I:p.length<=15/\0<p.length:=by
   have:=congrArg List.length M;simp at this;omega
  have Y:p.getD 0 0=l.getD a 0:=by
   rw[<-M,au₀,au₀,List.getElem?_take,if_pos byO,List.getElem?_drop,Nat.add_zero]
  have F:∀d ∈ p,d<900:=λd V=>hd d (by rw[<-M]at V;exact List.mem_of_mem_drop<|List.mem_of_mem_take V);have n:=qL (l:=l.drop a) (by intro e;have:=congrArg List.length e;simp at this;omega);rw[M,List.drop_drop]at n;have r0:(l.drop a).length=l.length-a:=Wc
  rw[r0]at n;have c:∀{b:Bool},kX b p=false->b=decide (l.length-a<=15)->fS l=none:=by
   intro b h1 h2;rw[hs.resolve_right id,n,<-h2,h1];rfl
  obtain⟨sv,H0,J⟩:=eO (hl.mono O) (a:=a) (b:=e) rfl rfl byO byO;rw[Z]at J;have j:=hs.resolve_right id;clear hs M Z;(try simp only[aC]);refine aK ?_ ?_<;>intro h
  .clear h
   refine aA ?_;refine aK ?_ ?_<;>intro h
   .have hz:kX (decide<|l.length-a<=15) p=false:=by
     have:p.getD 0 0=0:=by rw[Y];simp only[af₀]at h;omega
     exact qT λhc=>hc.1 this
    have Q:=c hz rfl;clear h c n j;refine aA ?_;refine aL ?_;rw[Q];exact⟨O,rfl⟩
   have y:p.getD 0 0≠0:=by rw[Y];simp only[ai₀]at h;omega
   clear h;have R:aa 900 p≠0:=by
    intro e;have:=CI F (by
     intro e2;rw[au₀,<-List.head?_eq_getElem?,e2]at y;exact y rfl)
    rw[e,vO]at this;rw[<-this]at I;simp at I
   have h0:(ba<|aa 900 p).length<=512:=by
    have h1:=iZ F p.length<|Nat.le_refl _;rw[List.take_length]at h1;have h2:(900:Nat)^p.length<=900^15:=Nat.pow_le_pow_right Wd I.1;have h3:(900:Nat)^15<=W32^5:=Wd
    have:=wJ (k:=5) (N:=aa 900 p) byO;omega
   refine aA ?_;refine ay ?_;apply aB ((PW (B:=900) (l:=p) byO J byO byO F).sub D4);rintro r H2 ⟨K,q,rfl,m2,rfl,hq⟩;have w0:=K.1;clear H0 J;obtain⟨g0,c2,rfl⟩:=hq.len;have a0:=hq;refine aA ?_;have L:Ext H2<|H2++[some [.bool false,.slice g0 (ba<|aa 900 p).length c2]]:=Ext.app _ _;have f:=(O.trans K).trans L;refine ay ?_;refine aB (VH (N:=aa 900 p) ⟨_,rfl,a0.mono L⟩ h0<|f.get ht) ?_;rintro r H3 ⟨rfl,rfl⟩;rw[KW R];clear hq a0;have u:dec (aa 900 p)≠[]:=λe=>R<|sB.1 e;have W:=dec_lt<|aa 900 p;have i:=@lZ (decide<|l.length-a<=15) p;have g:=@qT (decide<|l.length-a<=15) p;have C:uR p=(eH<|dec<|aa 900 p).drop 1:=by simp only[uR,eH,List.map_drop]
   have l0:(eH<|dec<|aa 900 p).length=(dec<|aa 900 p).length:=by simp[eH]
   have j0:((eH<|dec<|aa 900 p).getD 0 0).toNat=48+(dec<|aa 900 p).getD 0 0:=by
    cases hT:dec (aa 900 p)with
    | nil=>exact absurd hT u
    | cons d T=>
     have:=W d (by rw[hT];simp);simp only[eH,ag₀,List.getD_cons_zero,UInt8.toNat_ofNat'];omega
   have j1:=List.length_pos_iff.2 u;generalize eH (dec<|aa 900 p)=X at *;generalize (dec<|aa 900 p).length=TL at *;generalize (dec<|aa 900 p).getD 0 0=T0 at *;clear u W;have a1:X.length<=TL/\TL<=X.length:=byO;clear l0;generalize Z0:(X.getD 0 0).toNat=x0 at *;have g1:x0<=48+T0/\48+T0<=x0:=byO;clear j0;refine aA ?_;refine aK ?_ ?_<;>intro h
   .have Q:=c (g (by
     simp only[ar₀,af₀]at h;omega)) rfl
    clear h c n j g i;refine aA ?_;refine aL ?_;rw[Q];exact⟨f,rfl⟩
   have x:2<=TL/\TL<=45/\T0=1:=by
    simp only[Bool.or_eq_false_iff,ai₀]at h;omega
   clear h;refine aA ?_;refine aK ?_ ?_<;>intro h
   .have Q:=c (g (by
     simp only[ac₀,af₀,Bool.not_eq_true',ai₀]at h ⊢;omega)) rfl
    clear h c n j g i;refine aA ?_;refine aL ?_;rw[Q];exact⟨f,rfl⟩
   have s:=i.2 ⟨y,x.2.2,x.1,x.2.1,by
    simp only[Bool.and_eq_false_iff,ai₀,Bool.not_eq_false',af₀]at h ⊢;omega⟩
   clear h i g c;rw[if_pos s]at n;clear s;have es:∀G,aG (.slS true false) [eI X,.int .i64 1] G=some (eI<|X.drop 1):=λG=>xm (a:=1) byO;refine bV ?_;refine uz (A:=H.length) Wr U Wr ((ho.mono K).mono L) (m:=X.drop 1) Wr ?_;intro v' H4 b' q0 z0 s0;have X0:=s0.ext f U;clear ho P;refine aA ?_;simp only[bJ];refine⟨l.length-(a+15),byO,X0,a+15,D++X.drop 1,v',b',byO,.inl ?_,q0,z0,Wr,byO,aH ncM⟩;rw[j,n,C];cases fS<|l.drop<|a+15<;>simp
  .simp only[ai₀]at h;omega
 .have o:=hs.resolve_right id
  rw[List.drop_eq_nil_of_le byO,qK]at o;(try simp only[aC]);refine aK ?_ ?_<;>intro h
  .simp only[af₀]at h;omega
  clear h;have eb:=LG ho;clear hs;refine aA ?_;refine aL ?_;rw[o];simp only[Option.map_some,List.append_nil];exact⟨O,rfl⟩
def okW(w:Int):Bool:=decide (0<=w)&&decide (w<900)
def oK(l:XI):XU×Int:=
 if 8192<l.length then([],4) else if l.all okW then
  match fS (l.map Int.toNat)with
  | some t=>(t,0)
  | none=>([],22)
 else([],3)
def Bo{l:XI}(h:SlI H v l)(m:∀w ∈ l,0<=w):SlN H v<|l.map Int.toNat:=by
 have e:(l.map Int.toNat).map eQ=l.map (Value.int .i64):=by
  rw[List.map_map];refine List.map_congr_left λw k=>?_;have:=m w k;simp[Function.comp,eQ];congr 1;omega
 rcases h with ⟨rfl,rfl⟩|⟨b,o,sp,a,xs,c,d,f,g,i,j⟩
 .exact .inl ⟨rfl,rfl⟩
 .exact .inr ⟨b,o,sp,a,xs,XK,d,by rw[e];simpa using f,XP,i,by simpa using j⟩
theorem QV{l:XI}{i:Nat}(a:i<l.length)(h:okW (l.getD i 0)=false):l.all okW=false:=Xu
def OY{l:XI}(h:∀j,j<l.length->okW (l.getD j 0)=true):l.all okW=true:=by grind[List.getElem_of_mem]
def dP:XN->Nat->XN×Nat
 | [],c=>([],c)
 | d::r,c=>((c+900*d)%10::(dP r<|(c+900*d)/10).1,(dP r<|(c+900*d)/10).2)
theorem uf:∀(r:XN) (d c:Nat),dP (r++[d]) c=((dP r c).1++[((dP r c).2+900*d)%10],((dP r c).2+900*d)/10)
 | [],d,c=>rfl
 | x::r,d,c=>by simp[am₀,dP,uf r]
theorem qc:∀(r:XN) (c:Nat),(dP r c).1.length=r.length
 | [],_=>rfl
 | x::r,c=>by simp[dP,ak₀,qc r]
def wm:∀(r:XN) (c:Nat),dX 10 (dP r c).1+10^r.length*(dP r c).2=900*dX 10 r+c
 | [],c=>by simp[dP,dX]
 | x::r,c=>by
  have a:=wm r<|(c+900*x)/10
  grind[dP,dX,Nat.mul_assoc]
def wk:∀(r:XN) (c:Nat),∀d ∈ (dP r c).1,d<10
 | [],_,d,h=>by grind[dP]
 | x::r,c,d,h=>by
  simp[dP,List.mem_cons]at h;rcases h with rfl|h
  .omega
  .exact wk r _ d h
def rS:∀(r:XN) (c:Nat),(∀d ∈ r,d<10)->c<900->(dP r c).2<900
 | [],_,_,h=>h
 | x::r,c,h,b=>by
  have e:=h x Wc;exact rS r _ (λd a=>h d (by simp[a])) byO
def dJ(N:Nat):XN:=if N=0 then[0] else dZ 10 N
def gF(N:Nat):XN:=(dJ N).reverse
def HO{L:XN}(h:∀d ∈ L,d<10)(a:L≠[])(b:L.length=1\/10^(L.length-1)<=dX 10 L):L=dJ (dX 10 L):=by
 unfold dJ;obtain⟨A,z,rfl⟩:∃A z,L=A++[z]:=⟨L.dropLast,L.getLast a,(List.dropLast_concat_getLast a).symm⟩;have c:dX 10 (A++[z])=dX 10 A+10^A.length*z:=by grind[nJ,dX]
 grind[yd,mR,uw]
def pE(N:Nat):dJ N≠[]:=by grind[dJ,dF]
def tI(N:Nat):∀d ∈ dJ N,d<10:=by
 unfold dJ;split
 .simp
 .exact nP Wd N
theorem EF(N:Nat):dX 10 (dJ N)=N:=by
 unfold dJ;split
 next h=>subst h;rfl
 grind[gj]
theorem vf(N:Nat):(dJ N).length=1\/10^((dJ N).length-1)<=N:=by
 by_cases h:N=0
 .subst h;exact .inl rfl
 .have a:dJ N=dZ 10 N:=if_neg h
  rw[a];refine Decidable.byContradiction λb=>?_;have c:0<(dZ 10 N).length:=Xu
  have:=cU (B:=10) Wd ((dZ 10 N).length-1) N byO;omega
def Aw(N:Nat){w:Nat}:(dP (dJ N) w).1++dZ 10 (dP (dJ N) w).2=dJ (N*900+w):=by
 have g:=wm (dJ N) w;rw[EF]at g;have a:=qc (dJ N) w;have b:dX 10 ((dP (dJ N) w).1++dZ 10 (dP (dJ N) w).2)=N*900+w:=by
  grind[nJ,gj]
 rw[<-b];have i:0<(dJ N).length:=List.length_pos_iff.2<|pE N;apply HO
 .intro d f
  rcases List.mem_append.1 f with h|h
  .exact wk _ _ d h
  .exact nP Wd _ d h
 .intro e
  simp_all
 .rw[b,as₀,a]
  by_cases j:(dP (dJ N) w).2=0
  .grind[cQ,vf]
  .have c:10^((dZ 10 (dP (dJ N) w).2).length-1)<=(dP (dJ N) w).2:=by
    have:=vf (dP (dJ N) w).2
    grind[dJ]
   have k:0<(dZ 10 (dP (dJ N) w).2).length:=by grind[dF]
   rw[show(dJ N).length+(dZ 10 (dP (dJ N) w).2).length-1=(dJ N).length+((dZ 10 (dP (dJ N) w).2).length-1) by omega,Nat.pow_add];have:=Nat.mul_le_mul_left (10^(dJ N).length) c;omega
def yv{N k:Nat}(h:N<10^k)(a:1<=k):(gF N).length<=k:=by
 unfold gF dJ;split
 all_goals simp_all[cU]
theorem CX{N:Nat}(h:N≠0):gF N=dec N:=by rw[gF,dJ,if_neg h];rfl
def jo(ds:XN)(a k:Nat):XN:=ds.take (ds.length-k)++(dP (ds.drop<|ds.length-k).reverse a).1.reverse
def iQ(ds:XN)(a k:Nat):Nat:=(dP (ds.drop<|ds.length-k).reverse a).2
def wR(ds:XN)(a k:Nat):(jo ds a k).length=ds.length:=by simp[jo,qc]
def BU{ds:XN}{a k j:Nat}(e:j+1+k=ds.length) :
  iQ ds a (k+1)=(iQ ds a k+900*ds.getD j 0)/10/\jo ds a (k+1)=(jo ds a k).set j ((iQ ds a k+900*ds.getD j 0)%10)/\(jo ds a k).getD j 0=ds.getD j 0:=by
 have d:j<ds.length:=byO;have b:ds.length-(k+1)=j:=byO;have c:ds.drop j=ds.getD j 0::ds.drop (j+1):=by
  simp_all
 have g:=uf (ds.drop<|j+1).reverse (ds.getD j 0) a;have f:(ds.take j).length=j:=Wr
 grind[jo,iQ]
def rN{ds:XN}{a k:Nat}(h:∀d ∈ ds,d<10)(b:a<900):iQ ds a k<900:=
 rS _ _ (λd c=>h d<|List.mem_of_mem_drop<|List.mem_reverse.1 c) b
def BV(ds:XN)(a:Nat):jo ds a 0=ds/\iQ ds a 0=a:=by grind[jo,iQ,dP]
def Uq{p:XN}(j1:lo<=H.length)(hl:SlN H v p)(hp:p.length<=15)(N:∀d ∈ p,d<900) :
  Ev cp lo 193 [v] H λr H'=>Ext H H'/\r=eI (eH<|gF<|aa 900 p):=by
 have W1:=hl;obtain⟨ad,c0,rfl⟩:=hl.len;apply stG rfl rfl;unfold N1;simp only[kB,aC];refine aA ?_;apply aP (λi S H'=>Ext H H'/\∃(ds:XN) (w:Value) (b:Nat),(ds=gF (aa 900<|p.take i)\/False)/\H.length<=b/\Grow lo H' w b (ds.map eQ)/\∃(z:Nat->Value),S=[.slice ad p.length c0,z 1,w,.int .i64 i,z 4,z 5,z 6,z 7,z 8,z 9,z 10,z 11,z 12,z 13,z 14,z 15]) p.length
 .refine⟨Ext.push _ _,[0],_,H.length,.inl rfl,Nat.le_refl _,Grow.lit (n:=1) (c:=[0].map eQ) j1 (aX H _) rfl byO,aH rfl⟩
 .rintro i S H' hi ⟨hx,ds,w,b,-,-,-,z,rfl⟩
  exact⟨_,aM,Wc⟩
 .rintro i S H' hi ⟨hx,ds,w,b,e,hb,o,z,rfl⟩
  obtain⟨b0,o0,r0,u1,Z1,e0,S1,m1,x1⟩:=(hl.mono hx).els 0 byO;cases e0;have q1:=m1 i hi;have e:=e.resolve_right id;have y:∀d ∈ ds,d<10:=by rw[e];exact λd N=>tI _ d<|List.mem_reverse.1 N
  have O:0<ds.length:=by
   rw[e,gF,List.length_reverse];exact List.length_pos_iff.2<|pE _
  have T0:ds.length<=45:=by
   rw[e];refine yv ?_ byO;refine bd₀ (iZ N i byO)<|Nat.le_trans (Nat.pow_le_pow_right Wd (show i<=15 by omega)) Wd
  have g0:p.getD i 0<900:=by
   rw[au₀,bc₀ hi];exact N _<|List.getElem_mem hi
  have f:=Aw (aa 900<|p.take i) (w:=p.getD i 0);rw[<-jb hi]at f;have K:dJ (aa 900<|p.take i)=ds.reverse:=by rw[e,gF,List.reverse_reverse]
  rw[K]at f;generalize ha:p.getD i 0=a at *;obtain⟨H0,⟨_,h⟩|⟨h0,⟨sp,rfl,k1⟩,Z0⟩⟩:=o
  .simp at h;subst h;simp at O
  rw[ay₀];have P:=BV ds a;clear e K h0;replace f:=Or.inr (a:=False) f;refine aA ?_;apply aP (λk S s=>Ext H s/\s.get b=some ((jo ds a k).map eQ)/\∃(z:Nat->Value),S=[.slice (some ⟨b0,o0,r0⟩) p.length c0,z 1,.slice (some ⟨b,0,sp⟩) ds.length ds.length,.int .i64 i,.int .i64 (iQ ds a k),.int .i64<|(ds.length:Int)-1-(k:Nat),z 6,z 7,z 8,z 9,z 10,z 11,z 12,z 13,z 14,z 15]) ds.length
  .exact⟨hx,by rw[P.1];exact Z0,aH (by rw[P.2];simp)⟩
  .rintro k S s J ⟨g,-,z,rfl⟩
   exact⟨_,aM,Wr⟩
  .rintro k S s J ⟨g,D,z,rfl⟩
   obtain⟨j,hj,T1⟩:∃j,j+1+k<=ds.length/\ds.length<=j+1+k:=⟨ds.length-1-k,byO,byO⟩;have a0:j<ds.length:=byO;obtain⟨s1,s2,s3⟩:=BU (ds:=ds) (a:=a) (k:=k) (j:=j) byO;rw[s1,s2];have M:=rN (k:=k) y g0;have K1:ds.getD j 0<10:=by
    rw[au₀,bc₀ a0];exact y _<|List.getElem_mem a0
   have F:=wR ds a k;have Y1:((jo ds a k).map eQ)[j]?=some (eQ<|ds.getD j 0):=by
    rw[az₀,bc₀ byO,<-s3,au₀,bc₀ byO];rfl
   have ej:(ds.length:Int)-1-(k:Nat)=(j:Nat):=byO;have W:((jo ds a k).map eQ).set j (eQ<|(iQ ds a k+900*ds.getD j 0)%10)=((jo ds a k).set j<|(iQ ds a k+900*ds.getD j 0)%10).map eQ:=by rw[List.map_set]
   rw[<-W];clear W s1 s2 s3;generalize hX:(jo ds a k).map eQ=X at *;have B1:j<X.length:=by rw[<-hX];simp;omega
   clear hX F;generalize iQ ds a k=C at *;generalize ds.getD j 0=x at *;have g1:=Heap.get_lt D;have hT:(C:Int)+900*(x:Nat)=((C+900*x:Nat):Int):=Wc
   have A1:C+900*x<9000:=byO;have em:((C+900*x:Nat):Int).tmod 10=(((C+900*x)%10:Nat):Int):=Int.ofNat_tmod _ 10;have et:((C+900*x:Nat):Int).tdiv 10=(((C+900*x)/10:Nat):Int):=Int.ofNat_tdiv _ 10;rw[<-hT]at em et;clear hT;have w0:(C+900*x)/10<900:=byO;have x0:(C+900*x)%10<10:=byO;generalize (C+900*x)%10=R at *;generalize (C+900*x)/10=Q at *;refine aA ?_;have e2:(j:Int)-1=(ds.length:Int)-1-((k+1:Nat):Int):=byO;exact⟨g.set byO,by rw[aE g1],aH (by rw[e2];rfl)⟩
  .rintro S s ⟨g,D,z,rfl⟩
   have e1:jo ds a ds.length=(dP ds.reverse a).1.reverse:=by simp[jo]
   have e2:iQ ds a ds.length=(dP ds.reverse a).2:=by simp[iQ]
   have F:=wR ds a ds.length;have M:=rN (k:=ds.length) y g0;rw[e1]at D F;rw[e2]at M ⊢;clear e1 e2 P;generalize (dP ds.reverse a).1=L at *;generalize (dP ds.reverse a).2=C at *;simp only[List.length_reverse]at F;have G1:=cU (B:=10) Wd 3 C byO;(try simp only[aC]);refine aj (λm S u=>Ext H u/\∃(c:Nat) (t:XN) (w:Value) (b':Nat),m=c/\c<900/\(t++dZ 10 c=L++dZ 10 C\/False)/\H.length<=b'/\Grow lo u w b' (t.reverse.map eQ)/\∃(z:Nat->Value),S=[.slice (some ⟨b0,o0,r0⟩) p.length c0,z 1,w,.int .i64 i,.int .i64 c,z 5,z 6,z 7,z 8,z 9,z 10,z 11,z 12,z 13,z 14,z 15]) C ?_ ?_
   .exact⟨g,C,L,_,b,rfl,M,.inl rfl,hb,⟨H0,.inr ⟨Wr,⟨sp,by simp[F],k1⟩,D⟩⟩,aH rfl⟩
   rintro m S u ⟨U,_,t,w,b',rfl,F1,q,y0,o,z,rfl⟩;have w1:t.length<=100:=by
    have:=congrArg List.length<|q.resolve_right id;simp only[as₀]at this;omega
   have h1:=U.1;by_cases Y:m=0
   .subst Y
    have I:=q.resolve_right id;rw[cQ,List.append_nil,Wb f]at I;clear q;(try simp only[aC]);refine aK ?_ ?_<;>intro h
    .simp at h
    clear h;refine aA ?_;exact⟨U,t.reverse,w,b',.inl (by rw[I];rfl),y0,o,aH ncM⟩
   .have G:=Grow.sl o
    have S0:=dF (B:=10) Wd Y;have em:((m:Nat):Int).tmod 10=((m%10:Nat):Int):=Int.ofNat_tmod _ 10;have et:((m:Nat):Int).tdiv 10=((m/10:Nat):Int):=Int.ofNat_tdiv _ 10;have w0:m/10<900:=byO;have x0:m%10<10:=byO;(try simp only[aC]);refine aK ?_ ?_<;>intro h
    .clear h
     refine aA ?_;have q0:Ext u<|u++[some [Value.int .i64 ((m%10:Nat):Int)],some [Value.int .i64 ((m%10:Nat):Int)]]:=Ext.app _ _;have Z:Heap.get (u++[some [Value.int .i64 ((m%10:Nat):Int)],some [Value.int .i64 ((m%10:Nat):Int)]]) (u.length+1)=some ([m%10].map eQ):=by rw[dv];simp[eQ]
     have X1:(u++[some [Value.int .i64 ((m%10:Nat):Int)],some [Value.int .i64 ((m%10:Nat):Int)]]).length=u.length+2:=Wc
     generalize s0:u++[some [Value.int .i64 ((m%10:Nat):Int)],some [Value.int .i64 ((m%10:Nat):Int)]]=Hn at *;clear s0;refine ay ?_;refine pj (enc:=eQ) (λ_=>rfl) (A:=H.length) (l:=[m%10]) (b:=u.length+1) byO byO byO ⟨byO,.inr ⟨Wc,⟨some 1,rfl,.inr rfl⟩,Z⟩⟩ (G.mono q0) Wr ?_;intro v' H4 b4 z0 Y0 a1;have p1:=a1.ext (U.trans q0) byO;clear o Z G;refine aA ?_;simp only[bJ];refine⟨m/10,Nat.div_lt_self byO Wd,p1,m/10,t++[m%10],v',b4,rfl,byO,.inl ?_,z0,?_,aH rfl⟩
     .rw[<-q.resolve_right id,S0];simp
     .rw[List.reverse_append];exact Y0
    .simp only[ai₀]at h;omega
 .rintro S H' ⟨hx,ds,w,b,e,hb,o,z,rfl⟩
  have e:=e.resolve_right id;rw[List.take_length]at e;rw[<-e];have y:∀d ∈ ds,d<10:=by rw[e];exact λd N=>tI _ d<|List.mem_reverse.1 N
  have O:0<ds.length:=by
   rw[e,gF,List.length_reverse];exact List.length_pos_iff.2<|pE _
  have T0:ds.length<=45:=by
   rw[e];refine yv ?_ byO;have:=iZ N p.length<|Nat.le_refl _;rw[List.take_length]at this;exact bd₀ this<|Nat.le_trans (Nat.pow_le_pow_right Wd hp) Wd
  have G:=Grow.sl o;obtain⟨b1,o1,r1,V,a2,rfl,X0,l0,y1⟩:=G.els 0 O;clear e o G;refine aA ?_;refine aP (λk S s=>Ext H' s/\∃(z:Nat->Value),S=[z 0,z 1,.slice (some ⟨b1,o1,r1⟩) ds.length V,z 3,z 4,z 5,z 6,eI<|eH<|ds.take k,.int .i64 k,z 9,z 10,z 11,z 12,z 13,z 14,z 15]) ds.length ?_ ?_ ?_ ?_
  .exact⟨Ext.refl _,aH rfl⟩
  .rintro k S s J ⟨g,z,rfl⟩
   exact⟨_,aM,Wc⟩
  .rintro k S s J ⟨g,z,rfl⟩
   have q1:=l0 k J;have D:=g.get X0;have L1:ds.getD k 0<10:=by
    rw[au₀,bc₀ J];exact y _<|List.getElem_mem J
   have j0:eH (ds.take<|k+1)=eH (ds.take k)++[UInt8.ofNat<|48+ds.getD k 0]:=by
    rw[List.take_add_one,bc₀ J,au₀,bc₀ J];simp only[eH,List.map_append,Option.toList_some,ag₀,al₀,aq₀]
   rw[j0];have z1:(eH<|ds.take k).length<=45:=by simp[eH];omega
   generalize eH (ds.take k)=X at *;clear l0;generalize ds.getD k 0=x at *;clear j0;have eb:aG .b2s [.slice (some ⟨s.length,0,none⟩) 1 1] (s++[some [.int .u8<|48+(x:Int)]])=some (eI [UInt8.ofNat<|48+x]):=by
    simp only[aG];rw[cells_get (aX s _) Wc];simp only[List.drop_zero,List.take_succ_cons,List.take_zero,ao₀,bytesOf,Option.map_some];rw[show(48+(x:Int)).toNat=48+x by omega]
   refine aA ?_;exact⟨g.push' _,aH ncM⟩
  .rintro S s ⟨g,z,rfl⟩
   rw[List.take_length];refine aA ?_;refine aL ?_;exact⟨hx.trans g,rfl⟩
def KT{l m:XN}(h:l.length=m.length):l=m↔∀j,j<l.length->l.getD j 0=m.getD j 0:=by grind[List.ext_getElem]
def TF{v w:Value}{l m:XN}(N:lo<=H.length)(t:l.length<=100000)(k:SlN H v l)(n:SlN H w m) :
  Ev cp lo 194 [v,w] H λr H'=>H'=H/\r=.bool (decide<|l=m):=by
 have M:=k;have O:=n;obtain⟨A,C,rfl⟩:=k.len;obtain⟨B,D,rfl⟩:=n.len;apply stG rfl rfl;unfold N5;simp[kB,aC];refine aA ?_;refine aK ?_ ?_<;>intro h
 .have c:l≠m:=by
   rintro rfl;simp at h
  refine aA ?_;refine aL ?_;simp[c,aR]
 have d:l.length=m.length:=by
  simp[ai₀]at h;omega
 have y:l.length<=m.length/\m.length<=l.length:=byO;have a:=KT d;clear h d;refine aA ?_;apply aP (λi S H'=>H=H'/\(∀j,j<i->l.getD j 0=m.getD j 0)/\∃(z:Nat->Value),S=[.slice A l.length C,.slice B m.length D,z 2,.int .i64 i]) l.length
 .exact⟨rfl,λj L=>byO,aH rfl⟩
 .rintro i S H' g ⟨rfl,-,z,rfl⟩
  exact⟨_,aM,Wc⟩
 .rintro i S H' g ⟨rfl,b,z,rfl⟩
  obtain⟨Y,o0,U,q,W,F,I,o,u⟩:=k.els 0 byO;cases F;obtain⟨Z,o1,V,s,X,G,J,p,x⟩:=n.els 0 byO;cases G;have P:=o i g;have Q:=p i byO;have K:i<m.length:=byO;refine aA ?_;refine aK ?_ ?_<;>intro h
  .have c:l≠m:=by
    intro e;have:=a.1 e i g;simp only[af₀]at h;omega
   refine aA ?_;refine aL ?_;simp[c,aR]
  .have f:l.getD i 0=m.getD i 0:=Wu
   refine aA ?_;refine⟨We,λj L=>?_,aH ncM⟩;by_cases e:j=i
   .subst e;exact f
   .exact b j byO
 .rintro S H' ⟨rfl,b,z,rfl⟩
  have f:=a.2 b;clear a;refine aA ?_;refine aL ?_;simp[f,aR]
def Qg{l:XI}(u1:lo<=H.length)(hl:SlI H v l) :
  Ev cp lo 151 [v] H λr H'=>Ext H H'/\r=.tuple #[eI (oK l).1,.int .i64 (oK l).2]:=by
 have j0:=hl;obtain⟨ad,c0,rfl⟩:=hl.len;unfold oK;apply stG rfl rfl;unfold NA;simp only[kB,aC];refine aA ?_;refine aK ?_ ?_<;>intro h
 .have u:8192<l.length:=Wt
  clear h;refine aA ?_;refine aL ?_;rw[if_pos u];exact⟨Ext.refl _,rfl⟩
 have u:l.length<=8192:=Wu
 clear h;rw[if_neg byO];refine aA ?_;apply aP (λi S H'=>H=H'/\(∀j,j<i->okW (l.getD j 0)=true)/\∃(z:Nat->Value),S=[.slice ad l.length c0,z 1,z 2,.int .i64 i,z 4,z 5,z 6,z 7,z 8,z 9,z 10,z 11,z 12]) l.length
 .exact⟨rfl,λj hj=>byO,aH rfl⟩
 .rintro i S H' hi ⟨rfl,-,z,rfl⟩
  exact⟨_,aM,Wc⟩
 .rintro i S H' hi ⟨rfl,f,z,rfl⟩
  obtain⟨b0,o0,A1,b1,B1,e0,r1,a1,m1⟩:=hl.els 0 byO;cases e0;have y1:=a1 i hi;refine aA ?_;refine aK ?_ ?_<;>intro h
  .have A:okW (l.getD i 0)=false:=by
    simp only[ar₀,af₀]at h;simp only[okW,Bool.and_eq_false_iff,ai₀];omega
   clear h;refine aA ?_;refine aL ?_;rw[QV hi A];exact⟨Ext.refl _,rfl⟩
  .have q:okW (l.getD i 0)=true:=by
    simp only[Bool.or_eq_false_iff,ai₀]at h;simp only[okW,ac₀,af₀];omega
   clear h;refine aA ?_;refine⟨We,λj hj=>?_,aH ncM⟩;by_cases e:j=i
   .subst e;exact q
   .exact f j byO
 rintro S H' ⟨rfl,f,z,rfl⟩;have f:=OY f;rw[f];have I:=List.all_eq_true.1 f;have hr:∀w ∈ l,0<=w/\w<900:=λw hw=>by
  have:=I w hw;simpa only[okW,ac₀,af₀]using this
 have L:(l.map Int.toNat).length=l.length:=Wc
 have P:=Bo j0 λw hw=>(hr w hw).1;rw[<-L]at P;rw[<-L];have J:∀d ∈ l.map Int.toNat,d<900:=by
  intro d J;obtain⟨w,hw,rfl⟩:=List.mem_map.1 J;have:=hr w hw;omega
 have w1:(l.map Int.toNat).length<=8192:=byO;simp only[if_true];clear f I hr j0 hl u;generalize l.map Int.toNat=n at *;clear L;refine aA ?_;refine aj (λm S H'=>Ext H H'/\∃(a:Nat) (D:XU),(n.length<=m+a/\(a<=n.length->m+a<=n.length))/\(fS n=(fS<|n.drop a).map (D++·)\/False)/\D.length<=45*a/\a<=8300/\(∃(z:Nat->Value),S=[.slice ad n.length c0,z 1,z 2,z 3,eI D,.int .i64 a,z 6,z 7,z 8,z 9,z 10,z 11,z 12])) n.length ?_ ?_
 .exact⟨Ext.refl _,0,[],byO,.inl Wc,Wc,byO,aH rfl⟩
 rintro m S H' ⟨hx,a,D,hm,hs,hD,ha,z,rfl⟩;have o1:=hx.1;by_cases hi:a<n.length
 .obtain⟨e,he⟩:∃e,min (a+15) n.length=e:=⟨_,rfl⟩
  have q1:a<e/\e<=n.length/\e<=a+15:=byO;have g1:aG (.minmax false) [.int .i64<|(a:Int)+15,.int .i64 n.length] H'=some (.int .i64 e):=by
   simp only[aG,List.foldlM_cons,List.foldlM_nil,ml,ah₀,if_false];by_cases h:(n.length:Int)<(a:Int)+15
   .rw[if_pos h];simp;omega
   .rw[if_neg h];simp;omega
  obtain⟨p,hp⟩:∃p,(n.drop a).take 15=p:=⟨_,rfl⟩;have l0:(n.drop a).take (e-a)=p:=by
   rw[<-hp];rcases Nat.le_total (a+15) n.length with h|h
   .congr 1;omega
   .rw[List.take_of_length_le Wr,List.take_of_length_le Wr]
  have M:p.length<=15/\0<p.length:=by
   have:=congrArg List.length hp;simp at this;omega
  have r0:∀d ∈ p,d<900:=λd g0=>J d (by rw[<-hp]at g0;exact List.mem_of_mem_drop<|List.mem_of_mem_take g0);have K:=qL (l:=n.drop a) (by intro e;have:=congrArg List.length e;simp at this;omega);rw[hp,List.drop_drop]at K;have S0:(n.drop a).length=n.length-a:=Wc
  rw[S0]at K;have g:∀{b:Bool},kX b p=false->b=decide (n.length-a<=15)->fS n=none:=by
   intro b o U;rw[hs.resolve_right id,K,<-U,o];rfl
  obtain⟨sv,x1,O⟩:=eO (P.mono hx) (a:=a) (b:=e) rfl rfl byO byO;rw[l0]at O;have N:=hs.resolve_right id;clear hs hp l0 P;(try simp only[aC]);refine aK ?_ ?_<;>intro h
  .clear h
   refine aA ?_;refine ay ?_;refine aB (Uq byO O M.1 r0) ?_;rintro r H2 ⟨B,rfl⟩;have X0:=B.1;have s0:=O.mono B;have z0:(eH<|gF<|aa 900 p).length=(gF<|aa 900 p).length:=by simp[eH]
   have Z:0<(gF<|aa 900 p).length:=by rw[gF,List.length_reverse];exact List.length_pos_iff.2<|pE _
   have y0:((eH<|gF<|aa 900 p).getD 0 0).toNat=48+(gF<|aa 900 p).getD 0 0:=by
    have H0:∀d ∈ gF (aa 900 p),d<10:=λd J=>tI _ d<|List.mem_reverse.1 J;cases Y:gF (aa 900 p)with
    | nil=>rw[Y]at Z;simp at Z
    | cons d T=>
     have:=H0 d (by rw[Y];simp);simp only[eH,ag₀,List.getD_cons_zero,UInt8.toNat_ofNat'];omega
   have s:¬ ((gF<|aa 900 p).getD 0 0=1/\(gF<|aa 900 p).length<=45/\(gF<|aa 900 p).length≠1/\(n.length<=a+15\/(gF<|aa 900 p).length=45))->kX (decide<|n.length-a<=15) p=false:=by
    intro hn;refine qT λu=>hn ?_;have C:aa 900 p≠0:=by
     intro e;rw[e,mP]at u;simp at u
    rw[CX C];refine⟨u.2.1,u.2.2.2.1,byO,?_⟩;rcases u.2.2.2.2 with h|h
    .left;simp only[af₀]at h;omega
    .exact .inr h
   have k:(gF<|aa 900 p).getD 0 0=1->(gF<|aa 900 p).length<=45->(gF<|aa 900 p).length≠1->(n.length<=a+15\/(gF<|aa 900 p).length=45) ->
     (kX (decide<|n.length-a<=15) p=true↔p.getD 0 0≠0)/\uR p=(eH<|gF<|aa 900 p).drop 1/\(∀b ∈ (eH<|gF<|aa 900 p).drop 1,rj b=true)/\(BK ((eH<|gF<|aa 900 p).drop 1)=p↔p.getD 0 0≠0):=by
    intro o U h3 V;have C:aa 900 p≠0:=by
     intro e;rw[e]at o;simp[gF,dJ]at o
    rw[CX C]at o U h3 V ⊢;have a0:0<(dec<|aa 900 p).length:=List.length_pos_iff.2 λe=>C<|sB.1 e;refine⟨?_,by simp only[uR,eH,List.map_drop],?_,?_⟩
    .rw[lZ]
     simp only[af₀];constructor
     .exact λh=>h.1
     .exact λh=>⟨h,o,byO,U,byO⟩
    .intro b hb
     exact ML _ (dec_lt _) b<|List.mem_of_mem_drop hb
    .have e1:(eH<|dec<|aa 900 p).drop 1=eH ((dec<|aa 900 p).drop 1):=by simp only[eH,List.map_drop]
     rw[e1,BK,HN λd J=>dec_lt _ d<|List.mem_of_mem_drop J];have e2:1::(dec<|aa 900 p).drop 1=dec (aa 900 p):=by
      cases Y:dec (aa 900 p)with
      | nil=>rw[Y]at a0;simp at a0
      | cons d T=>rw[Y]at o;simp at o;subst o;rfl
     rw[e2,uE];constructor
     .intro e R
      have:=Dq<|aa 900 p;rw[e]at this;rw[au₀,<-List.head?_eq_getElem?]at R;cases q0:p with
      | nil=>rw[q0]at M;simp at M
      | cons x y=>rw[q0]at R this;simp at R this;exact this R
     .intro R
      refine CI r0 λe=>R ?_;rw[au₀,<-List.head?_eq_getElem?,e];rfl
   generalize eH (gF<|aa 900 p)=X at *;generalize (gF<|aa 900 p).length=W at *;generalize (gF<|aa 900 p).getD 0 0=T0 at *;have k1:X.length<=W/\W<=X.length:=byO;clear z0;generalize j1:(X.getD 0 0).toNat=x0 at *;have p1:x0<=48+T0/\48+T0<=x0:=byO;clear y0;refine aA ?_;have es:∀G,aG (.slS true false) [eI X,.int .i64 1] G=some (eI<|X.drop 1):=λG=>xm (a:=1) byO;by_cases c:T0=1/\W<=45/\W≠1/\(n.length<=a+15\/W=45)
   .obtain⟨o,U,h3,V⟩:=k c.1 c.2.1 c.2.2.1 c.2.2.2
    have hB:(decide ((x0:Int)≠49) || decide ((45:Int)<(X.length:Nat)) || decide (((X.length:Nat):Int)=1) || !decide (((n.length:Nat):Int)<=(a:Int)+15)&&decide (((X.length:Nat):Int)≠45))=false:=by
     simp only[Bool.or_eq_false_iff,Bool.and_eq_false_iff,ai₀,Bool.not_eq_false',af₀];omega
    clear k s;refine aU (t:=true) aM dY eU (λ_=>⟨_,aM,?_⟩) (λh=>by cases h);refine aB (PY (l:=X.drop 1) byO Wr h3) ?_;rintro r H3 ⟨Q,Z0⟩;have Y0:=Q.1;(try simp only[aC]);refine aU (t:=true) aM dY eU (λ_=>⟨_,aM,?_⟩) (λh=>by cases h);refine aB (TF byO (by
     have:=rI h3;rw[List.length_drop]at this;omega) Z0<|s0.mono Q) ?_
    rintro r2 H4 ⟨rfl,rfl⟩;have w0:=hx.trans<|B.trans Q;by_cases hz:p.getD 0 0=0
    .have C:=g (by rw[<-Bool.not_eq_true,o];exact λh=>h hz) rfl
     have A:¬ BK (X.drop 1)=p:=λe=>(V.1 e) hz;rw[decide_eq_false A];clear g o V A K N;(try simp only[aC]);refine aK ?_ ?_<;>intro h
     .clear h
      refine aA ?_;refine aL ?_;rw[C];exact⟨w0,rfl⟩
     .simp at h
    .have q:=o.2 hz
     rw[decide_eq_true<|V.2 hz];rw[if_pos q]at K;clear g o V q;(try simp only[aC]);refine aK ?_ ?_<;>intro h
     .simp at h
     clear h;(try simp only[aC]);have z1:(X.drop 1).length<=45:=Wr
     refine aA ?_;simp only[bJ];refine⟨n.length-(a+15),byO,w0,a+15,D++X.drop 1,byO,.inl ?_,Wr,byO,aH ncM⟩;rw[N,K,U];cases fS<|n.drop<|a+15<;>simp
   .have C:=g (s c) rfl
    have hB:(decide ((x0:Int)≠49) || decide ((45:Int)<(X.length:Nat)) || decide (((X.length:Nat):Int)=1) || !decide (((n.length:Nat):Int)<=(a:Int)+15)&&decide (((X.length:Nat):Int)≠45))=true:=by
     rw[<-Bool.not_eq_false];simp only[Bool.or_eq_false_iff,Bool.and_eq_false_iff,ai₀,Bool.not_eq_false',af₀];omega
    clear k s g K N c;refine aU (t:=false) aM dY eU (λh=>by cases h) λ_=>?_;(try simp only[aC]);refine aU (t:=false) aM dY eU (λh=>by cases h) λ_=>?_;simp only[aC];refine aK ?_ ?_<;>intro h
    .clear h
     refine aA ?_;refine ou aM ?_;rw[C];exact⟨hx.trans B,rfl⟩
    .cases h
  .simp only[ai₀]at h;omega
 .have F:=hs.resolve_right id
  rw[List.drop_eq_nil_of_le byO,qK]at F;(try simp only[aC]);refine aK ?_ ?_<;>intro h
  .simp only[af₀]at h;omega
  clear h hs;refine aA ?_;refine aL ?_;rw[F];simp only[Option.map_some,List.append_nil];exact⟨hx,rfl⟩
def uppT:XU:=[65,66,67,68,69,70,71,72,73,74,75,76,77,78,79,80,81,82,83,84,85,86,87,88,89,90,32]
def lowT:XU:=[97,98,99,100,101,102,103,104,105,106,107,108,109,110,111,112,113,114,115,116,117,118,119,120,121,122,32]
def stp(sub shift v:Nat):Option<|Int×Nat×Nat:=
 if shift=1 then(if v=29 then none else some (((punT.getD v 0).toNat:Int),sub,0))
 else if shift=2 then(if 26<v then none else some (((uppT.getD v 0).toNat:Int),sub,0))
 else if sub=3 then(if v=29 then some (-1,0,0) else some (((punT.getD v 0).toNat:Int),sub,0))
 else if v=29 then some (-1,sub,1)
 else if sub=2 then(if v=25 then some (-1,3,0) else if v=26 then some (32,sub,0) else if v=27 then some (-1,1,0) else if v=28 then some (-1,0,0) else some (((mixT.getD v 0).toNat:Int),sub,0))
 else if v=28 then some (-1,2,0)
 else if sub=0 then(if v=27 then some (-1,1,0) else some (((uppT.getD v 0).toNat:Int),sub,0))
 else if v=27 then some (-1,sub,2) else some (((lowT.getD v 0).toNat:Int),sub,0)
def Bt(sub shift v:Nat):Value:=match stp sub shift v with
 | some (c,a,b)=>.tuple #[.int .i64 c,.int .i64 a,.int .i64 b,.bool true]
 | none=>.tuple #[.int .i64 0,.int .i64 0,.int .i64 0,.bool false]
def Qo{sub a v:Nat}(f:sub<4)(g:a<3)(i:v<30) :
  Ev cp lo 150 [.int .i64 sub,.int .i64 a,.int .i64 v] H λr H'=>H'=H/\r=Bt sub a v:=by
 have d:∀b:UInt8,IntKind.i64.wrap (b.toNat:Int)=(b.toNat:Int):=λb=>wrap_i64 byO (by have:=b.toNat_lt;omega);unfold Bt stp;refine stG rfl rfl ?_;unfold Mz;simp only[kB,aC];refine aA ?_;refine aK ?_ ?_<;>intro h
 .have e:a=1:=Wt
  clear h;rw[if_pos e];(try simp only[aC]);refine aK ?_ ?_<;>intro h
  .have e:v=29:=Wt
   clear h;rw[if_pos e];refine aA ?_;refine aL ?_;exact⟨rfl,Wv⟩
  .have e:¬ (v=29):=Wu
   clear h;rw[if_neg e];have c:aG .idxS [.string ⟨#[59,60,62,64,91,92,93,95,96,126,33,13,9,44,58,10,45,46,36,47,34,124,42,40,41,63,123,125,39]⟩,.int .i64 v] H=some (.int .u8 ((punT.getD v 0).toNat:Nat)):=fV (l:=punT) X4;refine aA ?_;refine aL ?_;exact⟨rfl,Wv⟩
 .have e:¬ (a=1):=Wu
  clear h;rw[if_neg e];(try simp only[aC]);refine aK ?_ ?_<;>intro h
  .have e:a=2:=Wt
   clear h;rw[if_pos e];(try simp only[aC]);refine aK ?_ ?_<;>intro h
   .have e:26<v:=Wt
    clear h;rw[if_pos e];refine aA ?_;refine aL ?_;exact⟨rfl,Wv⟩
   .have e:¬ (26<v):=Wu
    clear h;rw[if_neg e];have c:aG .idxS [.string ⟨#[65,66,67,68,69,70,71,72,73,74,75,76,77,78,79,80,81,82,83,84,85,86,87,88,89,90,32]⟩,.int .i64 v] H=some (.int .u8 ((uppT.getD v 0).toNat:Nat)):=fV (l:=uppT) (by simp[uppT];omega);refine aA ?_;refine aL ?_;exact⟨rfl,Wv⟩
  .have e:¬ (a=2):=Wu
   clear h;rw[if_neg e];(try simp only[aC]);refine aK ?_ ?_<;>intro h
   .have e:sub=3:=Wt
    clear h;rw[if_pos e];(try simp only[aC]);refine aK ?_ ?_<;>intro h
    .have e:v=29:=Wt
     clear h;rw[if_pos e];refine aA ?_;refine aL ?_;exact⟨rfl,Wv⟩
    .have e:¬ (v=29):=Wu
     clear h;rw[if_neg e];have c:aG .idxS [.string ⟨#[59,60,62,64,91,92,93,95,96,126,33,13,9,44,58,10,45,46,36,47,34,124,42,40,41,63,123,125,39]⟩,.int .i64 v] H=some (.int .u8 ((punT.getD v 0).toNat:Nat)):=fV (l:=punT) X4;refine aA ?_;refine aL ?_;exact⟨rfl,Wv⟩
   .have e:¬ (sub=3):=Wu
    clear h;rw[if_neg e];(try simp only[aC]);refine aK ?_ ?_<;>intro h
    .have e:v=29:=Wt
     clear h;rw[if_pos e];refine aA ?_;refine aL ?_;exact⟨rfl,Wv⟩
    .have e:¬ (v=29):=Wu
     clear h;rw[if_neg e];(try simp only[aC]);refine aK ?_ ?_<;>intro h
     .have e:sub=2:=Wt
      clear h;rw[if_pos e];(try simp only[aC]);refine aK ?_ ?_<;>intro h
      .have e:v=25:=Wt
       clear h;rw[if_pos e];refine aA ?_;refine aL ?_;exact⟨rfl,Wv⟩
      .have e:¬ (v=25):=Wu
       clear h;rw[if_neg e];(try simp only[aC]);refine aK ?_ ?_<;>intro h
       .have e:v=26:=Wt
        clear h;rw[if_pos e];refine aA ?_;refine aL ?_;exact⟨rfl,Wv⟩
       .have e:¬ (v=26):=Wu
        clear h;rw[if_neg e];(try simp only[aC]);refine aK ?_ ?_<;>intro h
        .have e:v=27:=Wt
         clear h;rw[if_pos e];refine aA ?_;refine aL ?_;exact⟨rfl,Wv⟩
        .have e:¬ (v=27):=Wu
         clear h;rw[if_neg e];(try simp only[aC]);refine aK ?_ ?_<;>intro h
         .have e:v=28:=Wt
          clear h;rw[if_pos e];refine aA ?_;refine aL ?_;exact⟨rfl,Wv⟩
         .have e:¬ (v=28):=Wu
          clear h;rw[if_neg e];have c:aG .idxS [.string ⟨#[48,49,50,51,52,53,54,55,56,57,38,13,9,44,58,35,45,46,36,47,43,37,42,61,94]⟩,.int .i64 v] H=some (.int .u8 ((mixT.getD v 0).toNat:Nat)):=fV (l:=mixT) (by simp[mixT];omega);refine aA ?_;refine aL ?_;exact⟨rfl,Wv⟩
     .have e:¬ (sub=2):=Wu
      clear h;rw[if_neg e];(try simp only[aC]);refine aK ?_ ?_<;>intro h
      .have e:v=28:=Wt
       clear h;rw[if_pos e];refine aA ?_;refine aL ?_;exact⟨rfl,Wv⟩
      .have e:¬ (v=28):=Wu
       clear h;rw[if_neg e];(try simp only[aC]);refine aK ?_ ?_<;>intro h
       .have e:sub=0:=Wt
        clear h;rw[if_pos e];(try simp only[aC]);refine aK ?_ ?_<;>intro h
        .have e:v=27:=Wt
         clear h;rw[if_pos e];refine aA ?_;refine aL ?_;exact⟨rfl,Wv⟩
        .have e:¬ (v=27):=Wu
         clear h;rw[if_neg e];have c:aG .idxS [.string ⟨#[65,66,67,68,69,70,71,72,73,74,75,76,77,78,79,80,81,82,83,84,85,86,87,88,89,90,32]⟩,.int .i64 v] H=some (.int .u8 ((uppT.getD v 0).toNat:Nat)):=fV (l:=uppT) (by simp[uppT];omega);refine aA ?_;refine aL ?_;exact⟨rfl,Wv⟩
       .have e:¬ (sub=0):=Wu
        clear h;rw[if_neg e];(try simp only[aC]);refine aK ?_ ?_<;>intro h
        .have e:v=27:=Wt
         clear h;rw[if_pos e];refine aA ?_;refine aL ?_;exact⟨rfl,Wv⟩
        .have e:¬ (v=27):=Wu
         clear h;rw[if_neg e];have c:aG .idxS [.string ⟨#[97,98,99,100,101,102,103,104,105,106,107,108,109,110,111,112,113,114,115,116,117,118,119,120,121,122,32]⟩,.int .i64 v] H=some (.int .u8 ((lowT.getD v 0).toNat:Nat)):=fV (l:=lowT) (by simp[lowT];omega);refine aA ?_;refine aL ?_;exact⟨rfl,Wv⟩
end Go.Proofs.YtgiojnobcjnibaaGreatDoor
