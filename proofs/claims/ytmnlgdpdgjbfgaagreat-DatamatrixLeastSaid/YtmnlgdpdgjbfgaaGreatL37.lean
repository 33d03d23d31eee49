/- Lemmas. -/
import Derived.Test.YtmnlgdpdgjbfgaaGreatL9
import Derived.Test.YtmnlgdpdgjbfgaaGreatL23
import Derived.Test.YtmnlgdpdgjbfgaaGreatL29
import Derived.Test.YtmnlgdpdgjbfgaaGreatL31
import Derived.Test.YtmnlgdpdgjbfgaaGreatL36
set_option linter.all false
namespace Go.Proofs.YtmnlgdpdgjbfgaaGreat
open Go.Abs
open XJWd
end Go.Proofs.YtmnlgdpdgjbfgaaGreat
namespace Go.Proofs.YtmnlgdpdgjbfgaaGreat
open Go.Abs Go.RS
variable{p:List UInt8}
set_option maxRecDepth 20000
theorem D3{n:Int}{sq:Bool}(hn:1<=n):∀(l:List Sz) (best:Sz),(∀s ∈ l,s ∈ szs)->(best ∈ szs/\n<=best.d\/best.d=0/\∃t ∈ l,(sq=true->t.r=t.c)/\n<=t.d)->(l.foldl (gj n sq) best) ∈ szs/\n<=(l.foldl (gj n sq) best).d
 | [],best,_,h=>by
  rcases h with h|⟨_,t,ht,_⟩
  ·exact h
  ·cases ht
 | s::l,best,hl,h=>by
  have hs:=hl s (List.mem_cons_self ..);refine D3 hn l _ (fun t ht=>hl t (List.mem_cons_of_mem _ ht)) ?_;unfold gj;rcases h with ⟨h1,h2⟩|⟨h0,t,ht,ht1,ht2⟩
  ·split
   ·exact .inl ⟨h1,h2⟩
   ·rename_i hc
    split
    ·exact .inl ⟨hs,byO⟩
    ·exact .inl ⟨h1,h2⟩
  ·split
   ·rename_i hc
    rcases List.mem_cons.1 ht with rfl|ht
    ·rcases hc with ⟨a,b⟩|b
     ·exact absurd (ht1 a) b
     ·omega
    ·exact .inr ⟨h0,t,ht,ht1,ht2⟩
   ·rename_i hc
    rw[if_pos (.inl h0)];exact .inl ⟨hs,byO⟩
theorem Lc{n:Int}{sq:Bool}(h1:1<=n)(h2:n<=1558):∃s,sS n sq=(s,0)/\s ∈ szs/\n<=s.d:=by
 unfold sS;rw[if_neg byO,if_neg byO];have hl:szs.take 30=szs:=List.take_of_length_le (by rw[jM];exact Nat.le_refl _);have:=D3 (sq:=sq) h1 szs Sz.zero (fun s h=>h) (.inr ⟨rfl,⟨144,144,22,22,1558,620,10⟩,by decide,fun _=>rfl,h2⟩);refine⟨_,rfl,?_⟩;unfold dU;rw[hl];exact this
structure MatQ (p:List UInt8)(sq:Bool)(cs:List Nat)(i m:Nat)(e:List (El F1))(gf:G):Prop where
 lt:i<30
 sol:Sol p cs
 fit:sS ((max (kc p cs).length 1:Nat):Int) sq=((dz i).sz,0)
 dm:(dz i).d=(kc p cs).length+m
 ve:fo e=gK (zI (kc p cs)) m
 le:e.length=(dz i).d
 so:SizeOrd (dz i).sz gf
 enc:∀x,x<(dz i).n->IsEnc g1 (dz i).ck 1 (jZ e 0 (dz i).n x) ((dz i).W e x)
noncomputable def mtB(i:Nat)(e:List (El F1))(gf:G):List Bool:=eA (dz i).sz gf.cells (ilv (dz i).n ((dz i).W e) ((dz i).d+(dz i).c)) ((dz i).sz.r*(dz i).sz.c).toNat
theorem Ij{l:List Nat}(h:∀x ∈ l,x<=255):fo (l.map (eB 301))=zI l:=by
 unfold fo zI;rw[List.map_map];refine List.map_congr_left fun x hx=>?_;have:=h x hx;show(((eB 301 x).val:Nat):Int)=(x:Int);show((x%256:Nat):Int)=(x:Int);omega
namespace XZq
def xtr:=zzi @Sz.cells.eq_1 (zzi @Sz.val.eq_1 (zzi @Int.cast_ofNat_Int @ite_self.{1}))
end XZq
open XZq
theorem RK{lo:Nat}{H:Heap}{v:Value}{sq:Bool}(hp:SlU H v p)(hl:p.length<=300)(hlo:lo<=H.length) :
  Ev cp lo 18 [v,.bool sq] H (fun r H'=>Ext H H'/\∃cs i m e gf q,MatQ p sq cs i m e gf/\r=.tuple #[.agg #[.int .i64 (dz i).sz.c,.int .i64 (dz i).sz.r,.slice (some ⟨q,0,none⟩) ((dz i).sz.r*(dz i).sz.c).toNat ((dz i).sz.r*(dz i).sz.c).toNat],.int .i64 0]/\H'.get q=some (iL (mtB i e gf))):=by
 obtain⟨ad,c0,rfl⟩:=hp.len;refine stG rfl rfl ?_;unfold Nk;simp only[kB,aC];refine nH ?_;refine vX ?_;refine aB (RJ (p:=p) (hp.mono (Ext.app _ _)) byO (by simp;omega)) ?_;rintro r H1 ⟨hx1,u,cs,hn,rfl,hu⟩;have g0:H1.get H.length=some _:=hx1.get oL;have hx1:=hx1.of_app;have hl1:=Heap.get_lt g0;have hs:=AR hn;have hel:=G9 hs byO;have hle:=L7 hs byO;have hcl:cst cs 0 0<=303:=by
  by_cases h1:1<=p.length
  ·have:=Cz hs h1 byO
   split at this<;>omega
  ·rw[DA hs byO];omega
 clear hn;obtain⟨E,hEE⟩:∃E,kc p cs=E:=⟨_,rfl⟩;rw[hEE]at hu hel hle;have hE:E.length<=303:=byO;clear hel hcl;have hu2:=BM hu;obtain⟨au,cu,rfl⟩:=hu.len;obtain⟨s,hfit,hsz,hd⟩:=Lc (n:=((max E.length 1:Nat):Int)) (sq:=sq) byO byO;have hf:=Oh (lo:=lo) (H:=H1) ((max E.length 1:Nat):Int) sq byO;rw[hfit]at hf;obtain⟨i,hi,rfl⟩:=oJ.1 hsz;have hz:=zd hi;have hdn:max E.length 1<=(dz i).d:=by
  have:((max E.length 1:Nat):Int)<=((dz i).d:Int):=hd;omega
 obtain⟨m,hm⟩:∃m,(dz i).d=E.length+m:=⟨(dz i).d-E.length,byO⟩;have hmx:(if (1:Int)>((E.length:Nat):Int) then(1:Int) else((E.length:Nat):Int))=((max E.length 1:Nat):Int):=by split<;>omega
 have hd2:=hz.d2;have hpd:=ID (m:=m) hle byO;have hdm:(dz i).sz.d=((E.length:Nat):Int)+(m:Nat):=by show((dz i).d:Int)=_;omega
 have hpl:(gK (zI E) m).length=(dz i).d:=by rw[lD,hm];simp[zI]
 have hw255:=IC (m:=m) hle;have hvE:=Ij hw255;obtain⟨e,he⟩:∃e,e=(IB E m).map (eB 301):=⟨_,rfl⟩;rw[<-he]at hvE;have hpv:gK (zI E) m=fo e:=by rw[Hz,hvE]
 have hele:e.length=(dz i).d:=by rw[<-hpl,hpv,eZ]
 rw[hpv]at hpd;have hchk:oT (dz i).sz (fo e) (dz i).sz.d=0:=ze hsz (by rw[eZ,hele];rfl) (jb (f:=F1) e);have hMQ:∀gf,SizeOrd (dz i).sz gf->(∀x,x<(dz i).n->IsEnc g1 (dz i).ck 1 (jZ e 0 (dz i).n x) ((dz i).W e x))->MatQ p sq cs i m e gf:=by
  intro gf h1 h2;subst hEE;exact⟨hi,hs,hfit,hm,hpv.symm,hele,h1,h2⟩
 replace hMQ:False\/_:=.inr hMQ;clear hpl hpv hw255 hvE he hd hle hs hEE;obtain⟨gf0,hso0⟩:=FW _ hsz;have hu3:SlI H1 (.slice au E.length cu) (zI E):=hu2;clear hu hu2 hfit hp;generalize hsv:(dz i).sz=s at *;replace hsv:False\/_:=.inr hsv;replace hchk:False\/_:=.inr hchk;have hm2:m<=1558:=byO;replace hm:False\/_:=.inr hm;replace hele:False\/_:=.inr hele;replace hdn:False\/_:=.inr hdn;obtain⟨sr,sc,srr,src,sd,sk,sb⟩:=s;simp only at hdm;replace hdm:False\/_:=.inr hdm;refine nH ?_;refine x8 ?_ ?_<;>intro h
 ·simp at h
 clear h;(try simp only[aC]);refine vX ?_;refine aB hf ?_;rintro r H2 ⟨hx2,rfl⟩;clear hf;have g0:=hx2.get g0;have hn5:H.length≠H2.length:=by have:=Heap.get_lt g0;omega
 replace hn5:False\/_:=.inr hn5;have hx12:=hx1.trans hx2;have hl2:=hx12.1;have hu3:=hu3.mono hx2;clear hx1 hx2;refine nH ?_;have g6:Heap.get (H2++[some [Value.int .i64 sr,.int .i64 sc,.int .i64 srr,.int .i64 src,.int .i64 sd,.int .i64 sk,.int .i64 sb]]) H2.length=some [Value.int .i64 sr,.int .i64 sc,.int .i64 srr,.int .i64 src,.int .i64 sd,.int .i64 sk,.int .i64 sb]:=aG;have hE2:=Ext.app H2 [some [Value.int .i64 sr,.int .i64 sc,.int .i64 srr,.int .i64 src,.int .i64 sd,.int .i64 sk,.int .i64 sb]];have g0:=hE2.get g0;have hu3:=hu3.mono hE2;have hx13:=hx12.trans hE2;have hl3:=hx13.1;clear hx12 hE2;have hq6:H2.length<(H2++[some [Value.int .i64 sr,.int .i64 sc,.int .i64 srr,.int .i64 src,.int .i64 sd,.int .i64 sk,.int .i64 sb]]).length:=by simp
 generalize H2++[some [Value.int .i64 sr,.int .i64 sc,.int .i64 srr,.int .i64 src,.int .i64 sd,.int .i64 sk,.int .i64 sb]]=K3 at *;generalize H2.length=b6 at *;have hpad:=Rx (lo:=lo) (H:=K3) (v:=.slice au E.length cu) (l:=zI E) (n:=sd) hu3 (by simp[zI];omega) (by rw[hdm.resolve_left id];exact⟨by show(-9223372036854775808:Int)<=_;omega,by show _<=(9223372036854775807:Int);omega⟩) byO;rw[show Bn (zI E) sd=.inr (fo e) by rw[hdm.resolve_left id];exact hpd]at hpad;clear hpd hu3;(try simp only[aC]);refine x8 ?_ ?_<;>intro h
 ·simp at h
 clear h;(try simp only[aC]);refine vX ?_;refine aB hpad ?_;rintro r K4 ⟨hx4,w,rfl,hw⟩;clear hpad;have g0:=hx4.get g0;have g6:=hx4.get g6;have hx14:=hx13.trans hx4;have hl4:=hx14.1;clear hx13 hx4;obtain⟨aw,cw,rfl⟩:=hw.len;have hvl:(fo e).length<=1000000000:=by rw[eZ,hele.resolve_left id];omega
 have hprot:=Pw (lo:=lo) (H:=K4) (s:=⟨sr,sc,srr,src,sd,sk,sb⟩) hw hvl byO;refine nH ?_;refine x8 ?_ ?_<;>intro h
 ·simp at h
 clear h;(try simp only[aC]);refine vX ?_;refine aB hprot ?_;rintro r K5 ⟨hx5,-,hpr⟩;clear hprot;obtain⟨b,hb,rfl,hgb,henc⟩:=hpr i hi (hsv.resolve_left id).symm e rfl (hele.resolve_left id);clear hpr hw;have g0:=hx5.get g0;have g6:=hx5.get g6;have hx15:=hx14.trans hx5;have hl5:=hx15.1;clear hx14 hx5;have hWl:(ilv (dz i).n ((dz i).W e) ((dz i).d+(dz i).c)).length=(dz i).d+(dz i).c:=Gz _ _ _;have hwords:Words K5 (.slice (some ⟨b,0,none⟩) ((dz i).d+(dz i).c) ((dz i).d+(dz i).c)) (ilv (dz i).n ((dz i).W e) ((dz i).d+(dz i).c)):=.inr ⟨b,_,_,by rw[hWl],hgb,fun _ _=>rfl,Nat.le_refl _⟩;have hpl:=IH (lo:=lo) (H:=K5) (s:=⟨sr,sc,srr,src,sd,sk,sb⟩) byO hwords (fun _=>⟨gf0,hso0⟩);have hbw:fu (ilv (dz i).n ((dz i).W e) ((dz i).d+(dz i).c))=false:=by
  unfold fu;rw[List.any_eq_false];intro x hx;unfold ilv at hx;obtain⟨j,-,rfl⟩:=List.mem_map.1 hx;have:=El.lt (co ((dz i).W e (j%(dz i).n)) (j/(dz i).n));have h256:F1.q=256:=rfl;simp;omega
 have hV2:ilv (dz i).n ((dz i).W e) ((dz i).d+(dz i).c)=ilv (dz i).n ((dz i).W e) ((dz i).d+(dz i).c):=rfl;replace hV2:False\/_:=.inr hV2;obtain⟨V,hV⟩:∃V,V=ilv (dz i).n ((dz i).W e) ((dz i).d+(dz i).c):=⟨_,rfl⟩;rw[<-hV]at hWl hbw hpl hgb;replace hV2:False\/_:=.inr hV.symm;clear hV;have hNe:False\/(dz i).d+(dz i).c=(dz i).d+(dz i).c:=.inr rfl;replace hele:False\/_:=hele;have hNc:((dz i).d+(dz i).c:Nat)<=3000:=by have:=hz.c2;omega
 clear hwords hgb;obtain⟨N,hN⟩:∃N,N=(dz i).d+(dz i).c:=⟨_,rfl⟩;rw[<-hN]at hWl hpl hNc ⊢;replace hNe:False\/_:=.inr hN.symm;clear hN;refine nH ?_;refine x8 ?_ ?_<;>intro h
 ·simp at h
 clear h;(try simp only[aC]);refine vX ?_;refine aB hpl ?_;rintro r K6 ⟨hx6,hcs⟩;clear hpl;have hsd:sd=((dz i).d:Int):=(congrArg Sz.d (hsv.resolve_left id)).symm;have hsk:sk=((dz i).c:Int):=(congrArg Sz.k (hsv.resolve_left id)).symm;rcases hcs with ⟨h1,-⟩|⟨-,h2,-⟩|⟨-,-,h3,-⟩|⟨-,-,-,gf,q,hso,hq,rfl,hgq⟩
 ·exact absurd hsz h1
 ·exact absurd (by rw[hWl,<-hNe.resolve_left id];show(((dz i).d+(dz i).c:Nat):Int)=sd+sk;omega) h2
 ·rw[hbw]at h3;cases h3
 have hqn:H.length<q:=by have:=Heap.get_lt g0;omega
 have g0:=hx6.get g0;have hx16:=hx15.trans hx6;have hl6:=hx16.1;clear hx15 hx6 g6;replace hsd:False\/_:=.inr hsd;replace hsk:False\/_:=.inr hsk;have hH0:=Heap.get_lt g0;generalize hnq:(sr*sc).toNat=nq at *;replace hnq:False\/_:=.inr hnq;refine nH ?_;refine N9 ?_;refine⟨hx16.set byO,cs,i,m,e,gf,q,hMQ.resolve_left id gf ?_ henc,?_,?_⟩
 ·exact hso
 ·rw[hsv.resolve_left id];show _=Value.tuple #[.agg #[.int .i64 sc,.int .i64 sr,.slice (some ⟨q,0,none⟩) (sr*sc).toNat (sr*sc).toNat],.int .i64 0]
  rw[hnq.resolve_left id];rfl
 ·rw[aI byO]
  unfold mtB;rw[hsv.resolve_left id,hV2.resolve_left id];show _=some (iL (eA ⟨sr,sc,srr,src,sd,sk,sb⟩ gf.cells V (sr*sc).toNat));rw[hnq.resolve_left id];exact hgq
open Go.Abs
structure RN where
 i:Nat
 m:Nat
 ph:Nat
 s:Nat
 u:Bool
structure RS where
 w:Nat
 s:Int
 t:Int
 c:Nat
 to:RN
def rnC(n:RN):List Value:=[aA n.i,aA n.m,aA n.ph,aA n.s,.bool n.u]
abbrev rnV(n:RN):Value:=.agg #[aA n.i,aA n.m,aA n.ph,aA n.s,.bool n.u]
def rsC(x:RS):List Value:=[aA x.w,.int .i64 x.s,.int .i64 x.t,aA x.c,aA x.to.i,aA x.to.m,aA x.to.ph,aA x.to.s,.bool x.to.u]
abbrev rsV(x:RS):Value:=.agg #[aA x.w,.int .i64 x.s,.int .i64 x.t,aA x.c,aA x.to.i,aA x.to.m,aA x.to.ph,aA x.to.s,.bool x.to.u]
theorem oA(n:RN):(rnC n).length=5:=rfl
theorem vG(n:RN):oneCells (rnC n)=true:=rfl
theorem oC(n:RS):(rsC n).length=9:=rfl
theorem I2(n:RS):oneCells (rsC n)=true:=rfl
def eX(n:RN):Nat:=if n.m=3\/n.m=4 then 100+10*(n.m-3)+n.ph else n.m*32+(n.ph+4*n.s+if n.u then 16 else 0)
def uL(n:RN)(v:Nat):Nat:=if n.m=3 then lL v else if fG (n.m==2) n.s v=128 then 256 else fG (n.m==2) n.s v+if n.u then 128 else 0
def dH(p:List UInt8)(n:RN)(v:Nat):Option RN:=
 if n.m≠3/\n.s=0/\v<3 then some ⟨n.i,n.m,(n.ph+1)%3,v+1,n.u⟩
 else if n.m≠3/\n.s=2/\v=30/\n.u=false then some ⟨n.i,n.m,(n.ph+1)%3,0,true⟩
 else if n.i<p.length/\by' p n.i=uL n v then some ⟨n.i+1,n.m,(n.ph+1)%3,0,false⟩ else none
def dZ(p:List UInt8)(n:RN):Nat->List RS
 | 0=>if n.ph=0 then[⟨254,-1,-1,1,⟨n.i,0,0,0,false⟩⟩] else[]
 | v+1=>dZ p n v++match dH p n v with
  | some t=>[⟨v,-1,-1,if n.ph=0 then 2 else 0,t⟩]
  | none=>[]
def zJ(p:List UInt8)(n:RN):List RS:=dZ p n 40
def asR(i:Nat):RN:=⟨i,0,0,0,false⟩
def gZ(p:List UInt8)(i:Nat):List RS:=if i+1<p.length/\j6 (by' p i)=true/\j6 (by' p (i+1))=true then[⟨130+10*(by' p i-48)+(by' p (i+1)-48),-1,-1,1,asR (i+2)⟩] else[]
def nh(p:List UInt8)(i:Nat):List RS:=if i<p.length/\by' p i<128 then[⟨by' p i+1,-1,-1,1,asR (i+1)⟩] else[]
def j8(p:List UInt8)(i:Nat):List RS:=if i<p.length/\128<=by' p i then[⟨235,(by' p i-127:Nat),-1,2,asR (i+1)⟩] else[]
def wX(m:Nat):Nat:=if m=1 then 230 else if m=2 then 239 else if m=3 then 238 else if m=4 then 240 else 0
def kf(i k:Nat):List RS:=(List.range k).map fun j=>⟨wX (j+1),-1,-1,1,⟨i,j+1,0,0,false⟩⟩
def cV(i d:Nat):RS:=if d<250 then⟨231,(d:Nat),-1,2+d,asR (i+d)⟩ else⟨231,(d/250+249:Nat),(d%250:Nat),3+d,asR (i+d)⟩
def jK(i k:Nat):List RS:=(List.range k).map fun j=>cV i (j+1)
def cm(p:List UInt8)(i:Nat):List RS:=gZ p i++nh p i++j8 p i++kf i 4++jK i (min 1749 (p.length-i))
def mG(n:RN):Nat:=if n.ph=3 then 0 else 1
def qb(p:List UInt8)(n:RN):List RS:=[⟨31,-1,-1,mG n,asR n.i⟩]++if n.i<p.length/\32<=by' p n.i/\by' p n.i<=94 then[⟨by' p n.i%64,-1,-1,mG n,⟨n.i+1,4,(n.ph+1)%4,0,false⟩⟩] else[]
def bW(p:List UInt8)(n:RN):List RS:=if n.m=0 then cm p n.i else if n.m≠4 then zJ p n else qb p n
structure RN.ok (N:Nat)(n:RN):Prop where
 i:n.i<=N
 m:n.m<=4
 ph:n.ph<=3/\(n.m≠4->n.ph<=2)/\(n.m=0->n.ph=0)
 s:n.s<=3/\(n.m=0\/3<=n.m->n.s=0/\n.u=false)
theorem hO{N:Nat}{n:RN}(h:n.ok N):eX n<128:=by
 obtain⟨h1,h2,⟨h3,h4,h5⟩,h6,h7⟩:=h;unfold eX;split
 ·omega
 ·split<;>omega
theorem GN{n:RN}{v:Nat}(hv:v<40):uL n v<=256:=by
 unfold uL;split
 ·unfold lL;repeat' split
  all_goals omega
 ·have:fG (n.m==2) n.s v<=128:=by
   unfold fG;repeat' split
   all_goals omega
  split
  ·omega
  ·split<;>omega
theorem x6{n t:RN}{v:Nat}(h:n.ok p.length)(hm:1<=n.m/\n.m<=3)(hu:dH p n v=some t):t.ok p.length:=by
 obtain⟨h1,h2,⟨h3,h4,h5⟩,h6,h7⟩:=h;unfold dH at hu;split at hu
 ·cases hu
  refine⟨h1,h2,⟨by simp only;omega,fun _=>by simp only;omega,fun e=>by simp only at e;omega⟩,by simp only;omega,fun e=>by simp only at e;omega⟩
 ·split at hu
  ·cases hu
   refine⟨h1,h2,⟨by simp only;omega,fun _=>by simp only;omega,fun e=>by simp only at e;omega⟩,by simp only;omega,fun e=>by simp only at e;omega⟩
  ·split at hu
   ·cases hu
    refine⟨by simp only;omega,h2,⟨by simp only;omega,fun _=>by simp only;omega,fun e=>by simp only at e;omega⟩,by simp only;omega,fun e=>⟨rfl,rfl⟩⟩
   ·cases hu
theorem fY{N i:Nat}(h:i<=N):(asR i).ok N:=⟨h,by simp[asR],⟨by simp[asR],fun _=>by simp[asR],fun _=>rfl⟩,by simp[asR],fun _=>⟨rfl,rfl⟩⟩
structure RS.ok (N:Nat)(x:RS):Prop where
 to:x.to.ok N
 w:x.w<=255
 c:x.c<=2000
 s:-1<=x.s/\x.s<=2000
 t:-1<=x.t/\x.t<=2000
theorem xZ{p:List UInt8}{n:RN}(h:n.ok p.length)(hm:1<=n.m/\n.m<=3):∀k,k<=40->∀x ∈ dZ p n k,x.ok p.length
 | 0,_,x,hx=>by
  unfold dZ at hx;split at hx
  ·obtain rfl:=List.mem_singleton.1 hx
   exact⟨fY h.i,by simp,by simp,by simp,by simp⟩
  ·cases hx
 | k+1,hk,x,hx=>by
  unfold dZ at hx;rcases List.mem_append.1 hx with hx|hx
  ·exact xZ h hm k byO x hx
  ·cases hu:dH p n k with
   | none=>rw[hu]at hx;cases hx
   | some t=>
    rw[hu]at hx;obtain rfl:=List.mem_singleton.1 hx;exact⟨x6 h hm hu,by simp only;omega,by simp only;split<;>omega,by simp,by simp⟩
theorem AH(m:Nat):wX m<=255:=by
 unfold wX;repeat' split
 all_goals omega
theorem lu{n:RN}(h:n.ok p.length):∀x ∈ bW p n,x.ok p.length:=by
 intro x hx;unfold bW at hx;split at hx
 ·unfold cm at hx
  simp only[bd₀]at hx;rcases hx with (((hx|hx)|hx)|hx)|hx
  ·unfold gZ at hx
   split at hx
   ·rename_i hc
    obtain⟨h1,h2,h3⟩:=hc;have h2:=cz.1 h2;have h3:=cz.1 h3;obtain rfl:=List.mem_singleton.1 hx;exact⟨fY byO,by simp only;omega,by simp,by simp,by simp⟩
   ·cases hx
  ·unfold nh at hx
   split at hx
   ·obtain rfl:=List.mem_singleton.1 hx
    exact⟨fY byO,by simp only;omega,by simp,by simp,by simp⟩
   ·cases hx
  ·unfold j8 at hx
   split at hx
   ·have:=pF p n.i
    obtain rfl:=List.mem_singleton.1 hx;exact⟨fY byO,by simp,by simp,by simp only;omega,by simp⟩
   ·cases hx
  ·unfold kf at hx
   obtain⟨j,hj,rfl⟩:=List.mem_map.1 hx;have:=List.mem_range.1 hj;have hw:=AH (j+1);exact⟨⟨h.i,by simp only;omega,⟨by simp,fun _=>by simp,fun e=>by simp only at e;omega⟩,by simp,fun _=>⟨rfl,rfl⟩⟩,hw,by simp,by simp,by simp⟩
  ·unfold jK at hx
   obtain⟨j,hj,rfl⟩:=List.mem_map.1 hx;have:=List.mem_range.1 hj;unfold cV;split
   ·exact⟨fY byO,by simp,by simp only;omega,by simp only;omega,by simp⟩
   ·exact⟨fY byO,by simp,by simp only;omega,by simp only;omega,by simp only;omega⟩
 ·split at hx
  ·rename_i h0 h4
   exact xZ h ⟨byO,by have:=h.m;omega⟩ 40 (Nat.le_refl _) x hx
  ·rename_i h0 h4
   have h4:n.m=4:=Decidable.not_not.1 h4;unfold qb at hx;rcases List.mem_append.1 hx with hx|hx
   ·obtain rfl:=List.mem_singleton.1 hx
    exact⟨fY h.i,by simp,by simp only[mG];split<;>omega,by simp,by simp⟩
   ·split at hx
    ·obtain rfl:=List.mem_singleton.1 hx
     exact⟨⟨by simp only;omega,by simp,⟨by simp only;omega,fun e=>absurd rfl e,fun e=>by simp only at e;omega⟩,by simp,fun _=>⟨rfl,rfl⟩⟩,by simp only;omega,by simp only[mG];split<;>omega,by simp,by simp⟩
    ·cases hx
end Go.Proofs.YtmnlgdpdgjbfgaaGreat
namespace Go.Proofs.YtmnlgdpdgjbfgaaGreat
open Go.Abs
set_option maxRecDepth 100000
theorem O5:(List.range 256).all (fun k=>isB (j6 k) ((run cp 4).ret 0 188 [.int .u8 (k:Nat)] []))=true:=by kernel_rfl
theorem SP:(List.range 40).all (fun k=>isInt (lL k:Nat) ((run cp 6).ret 0 144 [.int .i64 (k:Nat)] []))=true:=by kernel_rfl
theorem R9:(List.range 4).all (fun s=>(List.range 40).all fun k=>[false,true].all fun b=>isInt (if fG b s k=128 then -1 else(fG b s k:Int)) ((run cp 4).ret 0 187 [.int .i64 (if b then 2 else 1),.int .i64 (s:Nat),.int .i64 (k:Nat)] []))=true:=by kernel_rfl
section
variable {lo:Nat}{H:Heap}
theorem Jq{k:Nat}(hk:k<256)(hlo:lo<=H.length):Ev cp lo 188 [.int .u8 (k:Nat)] H (fun v H'=>v=.bool (j6 k)/\Ext H H'):=
 iF iO (n:=4) (v:=.bool (j6 k)) rfl (Dt (List.all_eq_true.1 O5 k (List.mem_range.2 hk))) rfl hlo
theorem SO{k:Nat}(hk:k<40)(hlo:lo<=H.length):Ev cp lo 144 [aA k] H (fun v H'=>v=aA (lL k)/\Ext H H'):=
 iF iO (n:=6) (v:=aA (lL k)) rfl (na (List.all_eq_true.1 SP k (List.mem_range.2 hk))) rfl hlo
theorem R8{m s k:Nat}(hm:m=1\/m=2)(hs:s<4)(hk:k<40)(hlo:lo<=H.length):Ev cp lo 187 [aA m,aA s,aA k] H (fun v H'=>v=.int .i64 (if fG (m==2) s k=128 then -1 else(fG (m==2) s k:Int))/\Ext H H'):=by
 have h:=List.all_eq_true.1 (List.all_eq_true.1 (List.all_eq_true.1 R9 s (List.mem_range.2 hs)) k (List.mem_range.2 hk));rcases hm with rfl|rfl
 ·exact iF iO (n:=4) rfl (na (h false (by simp))) rfl hlo
 ·exact iF iO (n:=4) rfl (na (h true (by simp))) rfl hlo
open XYe
theorem Hn{N:Nat}{n:RN}(h:n.ok N)(hN:N<=10000):Ev cp lo 96 [rnV n] H (fun r H'=>Ext H H'/\r=aA (eX n)):=by
 obtain⟨h1,h2,⟨h3,h4,h5⟩,h6,h7⟩:=h;obtain⟨i,m,ph,s,u⟩:=n;simp only at h1 h2 h3 h4 h5 h6 h7;have hx:eX ⟨i,m,ph,s,u⟩=if m=3\/m=4 then 100+10*(m-3)+ph else m*32+(ph+4*s+if u then 16 else 0):=rfl
 rw[hx];clear hx;refine stG rfl rfl ?_;unfold OO;simp only[kB,aC];refine aE ?_;have hxb:Ext H (H++[some [aA i,aA m,aA ph,aA s,.bool u]]):=Ext.app _ _;have hgb:(H++[some [aA i,aA m,aA ph,aA s,.bool u]]).get H.length=some [aA i,aA m,aA ph,aA s,.bool u]:=aG;generalize H++[some [aA i,aA m,aA ph,aA s,.bool u]]=Hb at hxb hgb;refine bz (fun S' H'=>Hb=H'/\∃k:Nat,(False\/k=ph+4*s+if u then 16 else 0)/\k<=100/\∃(z:Nat->Value),S'=[z 0,ptr H.length,z 2,.int .i64 (k:Nat)]) ?_ ?_
 ·cases u with
  | true=>
   refine aN ?_ ?_<;>intro h
   ·clear h
    refine aE ?_;exact⟨by trivial,ph+4*s+16,.inr rfl,byO,aJ ncM⟩
   ·cases h
  | false=>
   refine aN ?_ ?_<;>intro h
   ·cases h
   ·clear h
    (try simp only[aC]);exact⟨by trivial,ph+4*s,.inr rfl,byO,aJ ncM⟩
 rintro S' H' ⟨rfl,k,hk,hkl,z,rfl⟩;rw[<-hk.resolve_left id];(try simp only[aC]);by_cases hm:m=3\/m=4
 ·have hd:(decide ((m:Int)=3) || decide ((m:Int)=4))=true:=by simp only[ar₀,af₀];omega
  have e1:100+10*((m:Int)-3)+(ph:Nat)=((100+10*(m-3)+ph:Nat):Int):=byO;rw[if_pos hm];refine aN ?_ ?_<;>intro h
  ·clear h
   refine aE ?_;refine dB ?_;exact⟨hxb,by show Value.int .i64 _=Value.int .i64 _;congr 1⟩
  ·exfalso;first|(rw[hd]at h;cases h)|cases h
 ·have hd:(decide ((m:Int)=3) || decide ((m:Int)=4))=false:=by simp only[Bool.or_eq_false_iff,ai₀];omega
  rw[if_neg hm];refine aN ?_ ?_<;>intro h
  ·exfalso;first|(rw[hd]at h;cases h)|cases h
  ·clear h
   refine aE ?_;refine dB ?_;exact⟨hxb,by show Value.int .i64 _=Value.int .i64 _;congr 1⟩
theorem C6{x k:Nat}(hx:x<=100000)(hk:k<=100000):Ev cp lo 51 [aA x,aA (k+1)] H (fun r H'=>H=H'/\r=aA ((x+msk k)%256)):=by
 have em:(149*((k+1:Nat):Int)).tmod 255=((149*(k+1)%255:Nat):Int):=by rw[Int.tmod_eq_emod_of_nonneg byO];omega
 have hlt:149*(k+1)%255<=254:=byO;have e2:msk k=149*(k+1)%255+1:=rfl;rw[e2];clear e2;generalize 149*(k+1)%255=w at em hlt ⊢;have eq:((x:Int)+(w:Nat)+1).tmod 256=(((x+(w+1))%256:Nat):Int):=by rw[Int.tmod_eq_emod_of_nonneg byO];omega
 refine stG rfl rfl ?_;unfold Nw;simp only[kB,aC];refine aE ?_;refine dB ?_;exact⟨rfl,rfl⟩
def dG(a b:RS):Bool:=if a.w≠b.w then decide (a.w<b.w) else if a.s≠b.s then decide (a.s<b.s) else decide (a.t<b.t)
theorem Oq{a b:RS}:Ev cp lo 98 [rsV a,rsV b] H (fun r H'=>Ext H H'/\r=.bool (dG a b)):=by
 obtain⟨aw,as',at',ac,ato⟩:=a;obtain⟨bw,bs,bt,bc,bto⟩:=b;unfold dG;simp only;refine stG rfl rfl ?_;unfold OQ;simp only[kB,aC];refine aE ?_;have hxb:Ext H (H++[some (rsC ⟨aw,as',at',ac,ato⟩),some (rsC ⟨bw,bs,bt,bc,bto⟩)]):=Ext.app _ _;have hg0:(H++[some (rsC ⟨aw,as',at',ac,ato⟩),some (rsC ⟨bw,bs,bt,bc,bto⟩)]).get H.length=some (rsC ⟨aw,as',at',ac,ato⟩):=aG;have hg1:(H++[some (rsC ⟨aw,as',at',ac,ato⟩),some (rsC ⟨bw,bs,bt,bc,bto⟩)]).get (H.length+1)=some (rsC ⟨bw,bs,bt,bc,bto⟩):=by rw[bL];rfl
 change wpS cp lo _ _ _ (H++[some (rsC ⟨aw,as',at',ac,ato⟩),some (rsC ⟨bw,bs,bt,bc,bto⟩)]);generalize H++[some (rsC ⟨aw,as',at',ac,ato⟩),some (rsC ⟨bw,bs,bt,bc,bto⟩)]=Hb at hxb hg0 hg1;replace hg0:Hb.get H.length=some [aA aw,.int .i64 as',.int .i64 at',aA ac,aA ato.i,aA ato.m,aA ato.ph,aA ato.s,.bool ato.u]:=hg0;replace hg1:Hb.get (H.length+1)=some [aA bw,.int .i64 bs,.int .i64 bt,aA bc,aA bto.i,aA bto.m,aA bto.ph,aA bto.s,.bool bto.u]:=hg1;by_cases h1:aw≠bw
 ·have hd:decide ((aw:Int)=(bw:Nat))=false:=decide_eq_false byO
  have hd2:decide (aw<bw)=decide ((aw:Int)<(bw:Nat)):=by
   by_cases h:aw<bw
   ·rw[decide_eq_true h,decide_eq_true byO]
   ·rw[decide_eq_false h,decide_eq_false byO]
  rw[if_pos h1,hd2];clear hd2;refine aN ?_ ?_<;>intro h
  ·refine aE ?_
   refine dB ?_;exact⟨hxb,rfl⟩
  ·exfalso;simp at h;omega
 rw[if_neg h1];have hd:decide ((aw:Int)=(bw:Nat))=true:=decide_eq_true byO;refine aN ?_ ?_<;>intro h
 ·exfalso;simp at h;omega
 clear h hd h1;(try simp only[aC]);by_cases h1:as'≠bs
 ·have hd:decide (as'=bs)=false:=decide_eq_false h1
  rw[if_pos h1];refine aN ?_ ?_<;>intro h
  ·refine aE ?_
   refine dB ?_;exact⟨hxb,rfl⟩
  ·exfalso;simp at h;exact h1 h
 rw[if_neg h1];have hd:decide (as'=bs)=true:=decide_eq_true (Decidable.not_not.1 h1);refine aN ?_ ?_<;>intro h
 ·simp at h
 clear h hd h1;refine aE ?_;refine dB ?_;exact⟨hxb,rfl⟩
end
theorem pC(p:List UInt8)(n:RN):∀k,(dZ p n k).length<=k+1
 | 0=>by unfold dZ;split<;>simp
 | k+1=>by
  have:=pC p n k;unfold dZ;rw[as₀];split<;>simp<;>omega
section
variable {lo:Nat}{H:Heap}{v:Value}{p:List UInt8}
theorem tq{cp:FuncId->Option CF}{z:List Value}{w:Value}{b:Nat}{L:List RS}{o:RS}{R:Value->Heap->Prop}(ho:OwnG lo 9 H w b (cat rsC L))(hlo:lo<=H.length)(hbig:L.length<=10000000)
  (k:∀v' H',AppG lo 9 H b (cat rsC (L++[o])) v' H'->R v' H'):wpH cp lo (.app 9 z) [w,.slice (some ⟨H.length,0,none⟩) 1 1] (H++[some (rsC o)]) R:=by
 have hx:Ext H (H++[some (rsC o)]):=Ext.app _ _;refine Kp (enc:=rsC) (r:=o) byO byO oC I2 (ho.mono hx) (by simp;omega) hbig aG ?_;intro v' H' h;exact k v' H' (AppG.trans (Ext.keep (Ext.refl _)) (.inl rfl) hx h)
theorem OwnG.over{n b c:Nat}{H1 H2:Heap}{X:List Value}(h:OwnG lo n H v b X)(e:Ext H H1)(k:Keep c H1 H2)(hc:H.length<=c):OwnG lo n H2 v b X:=by
 have key:∀{Y},H.get b=some Y->H2.get b=some Y:=fun hg=>k.get (e.get hg) (by have:=Heap.get_lt hg;omega);rcases h with ⟨h1,h|⟨m,h2,h3,h4,h5⟩⟩|⟨h1,m,h2,h3,h4,h5⟩
 ·exact .inl ⟨h1,.inl h⟩
 ·exact .inl ⟨h1,.inr ⟨m,h2,h3,h4,key h5⟩⟩
 ·exact .inr ⟨h1,m,h2,h3,h4,key h5⟩
open XYe
theorem N0{n:RN}(hv:SlU H v p)(hn:n.ok p.length)(hm:1<=n.m/\n.m<=3)(hl:p.length<=4096)(hlo:lo<=H.length):Ev cp lo 147 [v,rnV n] H (fun r H'=>Ext H H'/\∃b,H.length<=b/\OwnG lo 9 H' r b (cat rsC (zJ p n))):=by
 obtain⟨ad,c,ev⟩:=hv.len;rw[ev]at hv ⊢;clear ev;have h1:=hn.i;obtain⟨h3,h4,h5⟩:=hn.ph;obtain⟨h6,h7⟩:=hn.s;refine stG rfl rfl ?_;unfold JO;simp only[kB,aC];refine aE ?_;have hxb:Ext H (H++[some (rnC n)]):=Ext.app _ _;have hgb:(H++[some (rnC n)]).get H.length=some [aA n.i,aA n.m,aA n.ph,aA n.s,.bool n.u]:=aG;change wpS cp lo _ _ _ (H++[some (rnC n)]);generalize H++[some (rnC n)]=Hb at hxb hgb;have hlb:=hxb.1;refine bz (fun S' H'=>Ext Hb H'/\∃w b,Hb.length<=b/\OwnG lo 9 H' w b (cat rsC (dZ p n 0))/\∃(z:Nat->Value),S'=[.slice ad p.length c,z 1,ptr H.length,z 3,w,.int .i64 ((if n.ph=0 then 2 else 0:Nat):Int),z 6,z 7,z 8,z 9,z 10,z 11,z 12,z 13,z 14,z 15,z 16,z 17,z 18,z 19]) ?_ ?_
 ·unfold dZ
  by_cases h0:n.ph=0
  ·have hd:decide ((n.ph:Int)=0)=true:=decide_eq_true byO
   rw[if_pos h0,if_pos h0];replace h0:n.ph<=0:=byO;refine aN ?_ ?_<;>intro h
   ·clear h hd
    refine aE ?_;refine⟨Ext.app _ _,_,Hb.length+1,byO,.inl ⟨byO,.inr ⟨1,byO,rfl,rfl,?_⟩⟩,aJ ncM⟩;rw[bL];rfl
   ·simp at h
  ·have hd:decide ((n.ph:Int)=0)=false:=decide_eq_false byO
   rw[if_neg h0,if_neg h0];refine aN ?_ ?_<;>intro h
   ·simp at h
   ·clear h hd
    (try simp only[aC]);exact⟨Ext.refl _,_,Hb.length,Nat.le_refl _,OwnG.nil byO,aJ ncM⟩
 rintro S' H1 ⟨hx1,w,b,hb,ho,z,rfl⟩;have hg1:=hx1.get hgb;obtain⟨cst0,hcst,hcl⟩:∃q,(False\/(if n.ph=0 then 2 else 0:Nat)=q)/\q<=2:=⟨_,.inr rfl,by split<;>omega⟩;rw[hcst.resolve_left id];have q1:((n.ph:Int)+1).tmod 3=(((n.ph+1)%3:Nat):Int):=by rw[Int.tmod_eq_emod_of_nonneg byO];omega
 obtain⟨ph',hph,hphl⟩:∃q,(False\/(n.ph+1)%3=q)/\q<=2:=⟨_,.inr rfl,byO⟩;rw[hph.resolve_left id]at q1;refine aE ?_;refine aa (fun k S H'=>Ext Hb H'/\∃w b,(Hb.length<=b/\OwnG lo 9 H' w b (cat rsC (dZ p n k)))/\∃(z:Nat->Value),S=[.slice ad p.length c,z 1,ptr H.length,z 3,w,aA cst0,aA ph',.int .i64 (k:Nat),z 8,z 9,z 10,z 11,z 12,z 13,z 14,z 15,z 16,z 17,z 18,z 19]) 40 ⟨hx1,w,b,⟨hb,ho⟩,aJ rfl⟩ ?_ ?_ ?_
 ·rintro k S H' hk ⟨hx,w,b,_,z,rfl⟩
  exact⟨decide ((k:Int)<40),by simp(disch:=try exact dO)only[evB,xtr,Nat.reduceAdd,Nat.reduceBEq,Int.reduceToNat, *],by simp;omega⟩
 ·rintro k S H2 hk ⟨hx2,w,b,⟨hb,ho⟩,z,rfl⟩
  clear hg1 hx1;have hg2:=hx2.get hgb;have hl2:=hx2.1;have hgl2:=Heap.get_lt hg2;have hlen:=pC p n k;have hstep:dZ p n (k+1)=dZ p n k++match dH p n k with
   | some t=>[⟨k,-1,-1,cst0,t⟩]
   | none=>[]:=by rw[<-hcst.resolve_left id];rfl
  rw[hstep];clear hstep;generalize dZ p n k=L at ho hlen ⊢;refine aE ?_;change wpS cp lo _ _ _ (H2++[some [aA (n.i+1),aA n.m,aA ph',aA 0,.bool false]]);have hxc:Ext H2 (H2++[some [aA (n.i+1),aA n.m,aA ph',aA 0,.bool false]]):=Ext.app _ _;have hgc:(H2++[some [aA (n.i+1),aA n.m,aA ph',aA 0,.bool false]]).get H2.length=some [aA (n.i+1),aA n.m,aA ph',aA 0,.bool false]:=aG;generalize H2++[some [aA (n.i+1),aA n.m,aA ph',aA 0,.bool false]]=H3 at hxc hgc;have hl3:=hxc.1;refine bR ?_;refine aB (SO (lo:=lo) (k:=k) hk byO) ?_;rintro r H4 ⟨rfl,hx4⟩;have hl4:=hx4.1;have hgc4:=hx4.get hgc;have hg4:=(hxc.trans hx4).get hg2;have hcm:uL n k=if n.m=3 then lL k else if fG (n.m==2) n.s k=128 then 256 else fG (n.m==2) n.s k+if n.u then 128 else 0:=rfl
  have hcrl:=GN (n:=n) hk;refine aE ?_;refine bz (fun S' H'=>Ext H4 H'/\∃q:Int,((False\/q=if n.m=3 then(lL k:Int) else if fG (n.m==2) n.s k=128 then -1 else(fG (n.m==2) n.s k:Int))/\-1<=q/\q<=1000)/\∃(z:Nat->Value),S'=[.slice ad p.length c,z 1,ptr H.length,z 3,w,aA cst0,aA ph',.int .i64 (k:Nat),ptr H2.length,.int .i64 q,z 10,z 11,z 12,z 13,z 14,z 15,z 16,z 17,z 18,z 19]) ?_ ?_
  ·by_cases hm3:n.m=3
   ·have hd:decide ((n.m:Int)=3)=true:=decide_eq_true byO
    have hxl:=Ap (k:=k) hk;rw[if_pos hm3];replace hm3:n.m<=3/\3<=n.m:=byO;refine aN ?_ ?_<;>intro h
    ·exfalso;simp at h;omega
    ·clear h hd
     (try simp only[aC]);exact⟨Ext.refl _,(lL k:Int),⟨.inr rfl,byO,byO⟩,aJ rfl⟩
   ·have hd:decide ((n.m:Int)=3)=false:=decide_eq_false byO
    have hcl:=zY (b:=n.m==2) (s:=n.s) (k:=k) hk;rw[if_neg hm3];refine aN ?_ ?_<;>intro h
    ·clear h hd
     (try simp only[aC]);refine bR ?_;refine aB (R8 (lo:=lo) (m:=n.m) (s:=n.s) (k:=k) byO byO hk byO) ?_;rintro r H5 ⟨rfl,hx5⟩;generalize fG (n.m==2) n.s k=y at hcl;refine aE ?_;exact⟨hx5,_,⟨.inr rfl,by split<;>omega,by split<;>omega⟩,aJ rfl⟩
    ·exfalso;simp at h;omega
  rintro S' H5 ⟨hx5,q,⟨hq,hq1,hq2⟩,z,rfl⟩;have hl5:=hx5.1;have hg5:=hx5.get hg4;have hgc5:=hx5.get hgc4;refine aE ?_;refine bz (fun S' H'=>H5=H'/\∃q2:Int,((False\/q2=if uL n k=256 then -1 else(uL n k:Int))/\-1<=q2/\q2<=1000)/\∃(z:Nat->Value),S'=[.slice ad p.length c,z 1,ptr H.length,z 3,w,aA cst0,aA ph',.int .i64 (k:Nat),ptr H2.length,.int .i64 q2,z 10,z 11,z 12,z 13,z 14,z 15,z 16,z 17,z 18,z 19]) ?_ ?_
  ·have h38:=h7
   rw[hcm];have hxl:=Ap (k:=k) hk;have hcl:=zY (b:=n.m==2) (s:=n.s) (k:=k) hk;generalize fG (n.m==2) n.s k=y at hq hcl;generalize lL k=xv at hq hxl;cases hu:n.u with
   | true=>
    rw[hu]at h38 hg5;have hm3:¬ n.m=3:=fun e=>by have:=(h38 byO).2;cases this
    rw[if_neg hm3]at hq ⊢;clear hcm;by_cases hy:y=128
    ·rw[if_pos hy]at hq ⊢
     have hqe:=hq.resolve_left id;subst hqe;refine aN ?_ ?_<;>intro h
     ·exfalso;cases h
     ·clear h
      (try simp only[aC]);exact⟨by trivial,-1,⟨.inr rfl,byO,byO⟩,aJ rfl⟩
    ·rw[if_neg hy]at hq ⊢
     have hqe:=hq.resolve_left id;subst hqe;have hd:decide ((y:Int)>=0)=true:=decide_eq_true byO;have hd2:decide ((0:Int)<=(y:Nat))=true:=decide_eq_true byO;refine aN ?_ ?_<;>intro h
     ·clear h hd hd2
      refine aE ?_;exact⟨by trivial,(y:Int)+128,⟨.inr (by rw[if_neg byO];rfl),byO,byO⟩,aJ ncM⟩
     ·exfalso;first|(simp at h;done)|cases h
   | false=>
    rw[hu]at hg5;clear hcm;refine aN ?_ ?_<;>intro h
    ·cases h
    ·clear h
     (try simp only[aC]);refine⟨by trivial,q,⟨.inr ?_,byO,byO⟩,aJ rfl⟩;rw[hq.resolve_left id];by_cases hm3:n.m=3
     ·rw[if_pos hm3,if_pos hm3,if_neg byO]
     ·rw[if_neg hm3,if_neg hm3]
      by_cases hy:y=128
      ·rw[if_pos hy,if_pos hy];rfl
      ·rw[if_neg hy,if_neg hy]
       simp only[ah₀,if_false,Nat.add_zero];rw[if_neg byO]
  rintro S' H6 ⟨rfl,q2,⟨hq',hq1',hq2'⟩,z,rfl⟩;clear hq hcm;rw[jt];refine bz (fun S' H'=>H5=H'/\∃f:Bool,(False\/(f=true↔n.i<p.length/\by' p n.i=uL n k))/\∃(z:Nat->Value),S'=[.slice ad p.length c,z 1,ptr H.length,z 3,w,aA cst0,aA ph',.int .i64 (k:Nat),ptr H2.length,z 9,.bool f,z 11,z 12,z 13,z 14,z 15,z 16,z 17,z 18,z 19]) ?_ ?_
  ·by_cases hil:n.i<p.length
   ·have hd:decide ((n.i:Int)<(p.length:Nat))=true:=decide_eq_true byO
    obtain⟨bb,oo,xs,hia,hgx,hxx⟩:=fX (hv.mono (hxb.trans (hx2.trans (hxc.trans (hx4.trans hx5))))) hil;have hby:=(p.getD n.i 0).toNat_lt;replace hxx:xs[oo]?=some (.int .u8 ((p.getD n.i 0).toNat:Nat)):=hxx;have hbe:by' p n.i=(p.getD n.i 0).toNat:=rfl;rw[hbe];clear hbe;generalize (p.getD n.i 0).toNat=y at hxx hby;generalize uL n k=cc at hcrl hq' ⊢;by_cases hc256:cc=256
    ·rw[if_pos hc256]at hq'
     have hqe:=hq'.resolve_left id;subst hqe;clear hq';refine aE ?_;exact⟨by trivial,false,.inr (by simp;omega),aJ rfl⟩
    ·rw[if_neg hc256]at hq'
     have hqe:=hq'.resolve_left id;subst hqe;clear hq';have hd1:decide ((cc:Int)>=0)=true:=decide_eq_true byO;have hd2:decide ((0:Int)<=(cc:Nat))=true:=decide_eq_true byO;refine aE ?_;exact⟨by trivial,decide ((y:Int)=(cc:Nat)),.inr (by simp only[af₀];omega),aJ rfl⟩
   ·have hd:decide ((n.i:Int)<(p.length:Nat))=false:=decide_eq_false byO
    by_cases hq0:q2>=0
    ·have hd1:decide (q2>=0)=true:=decide_eq_true hq0
     have hd2:decide (0<=q2)=true:=decide_eq_true hq0;refine aE ?_;exact⟨by trivial,false,.inr (by simp;omega),aJ rfl⟩
    ·have hd1:decide (q2>=0)=false:=decide_eq_false hq0
     have hd2:decide (0<=q2)=false:=decide_eq_false hq0;refine aE ?_;exact⟨by trivial,false,.inr (by simp;omega),aJ rfl⟩
  rintro S' H6 ⟨rfl,f,hf,z,rfl⟩;clear hq' hq1' hq2';have hU:False\/dH p n k=if n.m≠3/\n.s=0/\k<3 then some ⟨n.i,n.m,ph',k+1,n.u⟩ else if n.m≠3/\n.s=2/\k=30/\n.u=false then some ⟨n.i,n.m,ph',0,true⟩ else if n.i<p.length/\by' p n.i=uL n k then some ⟨n.i+1,n.m,ph',0,false⟩ else none:=.inr (by unfold dH;rw[hph.resolve_left id])
  have hdm:Keep H2.length H5 H5:=Ext.keep (Ext.refl _);have hlb5:=Heap.get_lt hgc5;have hx5b:=hx2.trans (hxc.trans (hx4.trans hx5));have hx5k:=hx5;clear hx5 hgc4 hg4 hl3 hl4;refine bz (fun S' H'=>(Keep H2.length H5 H'/\∃(f':Bool) (t:RN),(H'.get H2.length=some (rnC t)/\(False\/((n.m≠3/\n.s=0/\k<3)/\f'=true/\t=⟨n.i,n.m,ph',k+1,n.u⟩)\/(¬ (n.m≠3/\n.s=0/\k<3)/\f'=f/\t=⟨n.i+1,n.m,ph',0,false⟩)))/\∃z:Nat->Value,S'=[.slice ad p.length c,z 1,ptr H.length,z 3,w,aA cst0,aA ph',.int .i64 (k:Nat),ptr H2.length,z 9,.bool f',z 11,z 12,z 13,z 14,z 15,z 16,z 17,z 18,z 19])) ?_ ?_
  ·by_cases hc:n.m≠3/\n.s=0/\k<3
   ·obtain⟨c1,c2,c3⟩:=hc
    have hd:decide ((n.m:Int)=3)=false:=decide_eq_false byO;have hd2:decide ((n.s:Int)=0)=true:=decide_eq_true byO;have hd4:decide ((k:Int)<3)=true:=decide_eq_true byO;have c2':n.s<=0:=byO;have hmk:(n.m≠3/\n.s=0/\k<3):=⟨c1,c2,c3⟩;clear c2;replace hmk:False\/_:=.inr hmk;refine aN ?_ ?_<;>intro h
    ·clear h
     refine aE ?_;exact⟨keepSet,true,_,⟨aF hlb5,.inr (.inl ⟨hmk.resolve_left id,rfl,rfl⟩)⟩,aJ rfl⟩
    ·exfalso;first|(simp at h;done)|(simp at h;omega)|cases h
   ·have hcc:((!decide ((n.m:Int)=3)&&decide ((n.s:Int)=0))&&decide ((k:Int)<3))=false:=by
     by_cases c1:n.m=3
     ·rw[decide_eq_true byO];rfl
     ·by_cases c2:n.s=0
      ·rw[decide_eq_false (by omega:¬ (k:Int)<3)];simp
      ·rw[decide_eq_false (by omega:¬ (n.s:Int)=0)];simp
    have hcc2:((decide ((n.m:Int)≠3)&&decide ((n.s:Int)=0))&&decide ((k:Int)<3))=false:=by
     rw[<-hcc];simp
    replace hc:False\/_:=.inr hc;refine aN ?_ ?_<;>intro h
    ·exfalso;first|(rw[hcc]at h;cases h)|(rw[hcc2]at h;cases h)|(simp at h;done)|cases h
    clear h;(try simp only[aC]);exact⟨hdm,f,⟨n.i+1,n.m,ph',0,false⟩,⟨hgc5,.inr (.inr ⟨hc.resolve_left id,rfl,rfl⟩)⟩,aJ rfl⟩
  rintro S' H6 ⟨hk6,f',t,⟨hgt,hft⟩,z,rfl⟩;have hl6:=hk6.len;have hg6:=hk6.get hg5 byO;have hlb6:=Heap.get_lt hgt;clear hgc5 hg5;(try simp only[aC]);refine bz (fun S' H'=>(Keep H2.length H5 H'/\∃(f:Bool) (t:RN),(H'.get H2.length=some (rnC t)/\(False\/(f=true/\dH p n k=some t)\/(f=false/\dH p n k=none)))/\∃(z:Nat->Value),S'=[.slice ad p.length c,z 1,ptr H.length,z 3,w,aA cst0,aA ph',.int .i64 (k:Nat),ptr H2.length,z 9,.bool f,z 11,z 12,z 13,z 14,z 15,z 16,z 17,z 18,z 19])) ?_ ?_
  ·by_cases hc:n.m≠3/\n.s=2/\k=30/\n.u=false
   ·have hU1:=hU.resolve_left id
    rw[if_neg (fun h=>by omega),if_pos hc]at hU1;clear hU hft;replace hU1:False\/_:=.inr hU1;obtain⟨c0,c1,c2,c3⟩:=hc;rw[c3]at hg6;have hd:decide ((n.m:Int)=3)=false:=decide_eq_false byO;have hd3:decide ((n.s:Int)=2)=true:=decide_eq_true byO;have hd4:decide ((k:Int)=30)=true:=decide_eq_true byO;replace c1:n.s<=2/\2<=n.s:=byO;replace c2:k<=30/\30<=k:=byO;replace c3:False\/_:=.inr c3;refine aN ?_ ?_<;>intro h
    ·clear h
     refine aE ?_;exact⟨an hk6 (.inl rfl) keepSet,true,⟨n.i,n.m,ph',0,true⟩,⟨aF hlb6,.inr (.inl ⟨rfl,hU1.resolve_left id⟩)⟩,aJ ncM⟩
    ·exfalso;first|(simp at h;done)|(simp at h;omega)|cases h
   ·have hfin:f'=true/\dH p n k=some t\/f'=false/\dH p n k=none:=by
     have hU1:=hU.resolve_left id;rcases hft.resolve_left id with ⟨k1,k2,k3⟩|⟨k1,k2,k3⟩
     ·rw[if_pos k1]at hU1
      exact .inl ⟨k2,by rw[hU1,k3]⟩
     ·rw[if_neg k1,if_neg hc]at hU1
      rw[k2,k3,hU1];cases hfv:f with
      | true=>exact .inl ⟨rfl,if_pos ((hf.resolve_left id).1 hfv)⟩
      | false=>exact .inr ⟨rfl,if_neg (fun h=>by have:=(hf.resolve_left id).2 h;rw[hfv]at this;cases this)⟩
    replace hfin:False\/_:=.inr hfin;have hcc:(((!decide ((n.m:Int)=3)&&decide ((n.s:Int)=2))&&decide ((k:Int)=30))&&!n.u)=false:=by
     by_cases c1:n.m=3
     ·rw[decide_eq_true (by omega:(n.m:Int)=3)];rfl
     ·by_cases c2:n.s=2
      ·by_cases c3:k=30
       ·cases hu:n.u with
        | true=>simp
        | false=>exact absurd ⟨c1,c2,c3,hu⟩ hc
       ·rw[decide_eq_false (by omega:¬ (k:Int)=30)];simp
      ·rw[decide_eq_false (by omega:¬ (n.s:Int)=2)];simp
    have hcc2:(((decide ((n.m:Int)≠3)&&decide ((n.s:Int)=2))&&decide ((k:Int)=30))&&!n.u)=false:=by
     rw[<-hcc];simp
    clear hU hft hf hc;refine aN ?_ ?_<;>intro h
    ·exfalso;first|(rw[hcc]at h;cases h)|(rw[hcc2]at h;cases h)|(simp at h;done)|cases h
    clear h;(try simp only[aC]);exact⟨hk6,f',t,⟨hgt,hfin⟩,aJ ncM⟩
  rintro S' H7 ⟨hk7,f2,t2,⟨hgt2,hft2⟩,z,rfl⟩;have hx7:=hk7.ext hx5b hl2;have hl7:=hk7.len;have hg7:H7.get H.length=some [aA n.i,aA n.m,aA n.ph,aA n.s,.bool n.u]:=hx7.get hgb;have ho7:OwnG lo 9 H7 w b (cat rsC L):=ho.over (hxc.trans (hx4.trans hx5k)) hk7 (Nat.le_refl _);clear hg6 hgt hft hU hf hk6 hl6 hlb6;rcases hft2.resolve_left id with ⟨rfl,hu⟩|⟨rfl,hu⟩
  ·rw[hu]
   (try simp only[aC]);refine aN ?_ ?_<;>intro h
   ·clear h
    refine aE ?_;change wpS cp lo _ _ _ (H7++[some (rsC ⟨k,-1,-1,cst0,t2⟩)]);refine bR ?_;refine tq (o:=⟨k,-1,-1,cst0,t2⟩) ho7 byO byO ?_;intro w8 H8 hap;have hx8:=hap.ext hx7 hb;obtain⟨b8,k1,k2,k3,k4⟩:=hap;refine aE ?_;exact⟨hx8,w8,b8,⟨byO,k3⟩,aJ ncM⟩
   ·cases h
  ·rw[hu]
   (try simp only[aC]);refine aN ?_ ?_<;>intro h
   ·cases h
   ·clear h
    refine aE ?_;exact⟨hx7,w,b,⟨hb,by rw[List.append_nil];exact ho7⟩,aJ ncM⟩
 ·rintro S H2 ⟨hx2,w,b,⟨hb,ho⟩,z,rfl⟩
  refine aE ?_;refine dB ?_;exact⟨hxb.trans hx2,b,byO,ho⟩
end
end Go.Proofs.YtmnlgdpdgjbfgaaGreat
