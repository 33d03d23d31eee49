/- Lemmas. -/
import Derived.Test.YtmnlgdpdgjbfgaaGreatD18
import Derived.Test.YtmnlgdpdgjbfgaaGreatD19
import Derived.Test.YtmnlgdpdgjbfgaaGreatD27
set_option linter.all false
namespace Go.Proofs.YtmnlgdpdgjbfgaaGreat
open Go.Abs
set_option maxRecDepth 20000
section
variable {b0 n m t a lo:Nat}{A0 G:Heap}{out:List UInt8}{ad:Option Addr}{u f:Bool}{wv:Value}{ws:List Nat}
def rdR(m t:Nat)(u f:Bool):Rd->Nat ⊕ (Nat×Nat×Nat×Bool×List UInt8×Bool)
 | .inl e=>.inl e
 | .inr (a,o)=>.inr (a,m,t,u,o,f)
open XKa
theorem Mm(h:Own A0.length 1 G (.slice ad n n) b0 (uU out))(hx:Ext A0 G)(hw:SlN A0 wv ws)(hlo:lo<=A0.length)(hB:out.length+2*(ws.length-a)<=16400)(hal:a<=ws.length)(hwl:ws.length<=8192)(hby:∀k,wd ws k<=255) :
  Ev cp lo 143 [wv,.agg #[aD a,aD m,aD t,.bool u,.slice ad n n,.bool f]] G (fun r H'=>xk A0.length b0 G r H' (rdR m t u f (rW ws a out))):=by
 have hA:=hx.1;have hlG:lo<=G.length:=byO;have hb0:=h.1;obtain⟨aw,cw,rfl⟩:=hw.len;generalize hR:rW ws a out=R;unfold rW at hR;refine stG rfl rfl ?_;unfold IY;simp only[kB,aB];refine aL ?_;have hm0:=ScM.start (x:=snC a m t u ad n f) (y:=zC) h hA;have gs:(G++[some (snC a m t u ad n f),some zC]).get G.length=some (snC a m t u ad n f):=aK;have gr:(G++[some (snC a m t u ad n f),some zC]).get (G.length+1)=some zC:=by rw[bI];rfl
 generalize G++[some (snC a m t u ad n f),some zC]=H1 at *;generalize G.length+1=rb at *;have hne:=hm0.ne;have hrg:=hm0.rbG;have hsb:=hm0.sbH;have hrb:=hm0.rbH;have hwx:=fun(H:Heap) (out:List UInt8) (ad:Option Addr) (n:Nat) (h:ScM A0.length G H b0 G.length rb rb out ad n)=>hw.mono (h.ext hx hb0);generalize G.length=sb at *;by_cases ha:ws.length<=a
 ·rw[if_pos ha]at hR
  have hd:decide ((a:Int)>=(ws.length:Nat))=true:=decide_eq_true byO;subst hR;refine aP ?_ ?_<;>intro h
  ·clear h
   refine aL ?_;refine bM ?_;exact(hm0.set (.inr rfl)).inl rfl byO rfl
  ·exfalso;first|(rw[hd]at h;cases h)|cases h
 rw[if_neg ha]at hR;have hd:decide ((a:Int)>=(ws.length:Nat))=false:=decide_eq_false byO;obtain⟨b1,o1,x1,i1,g1,e1⟩:=jQ (hwx _ _ _ _ hm0) (show a<ws.length by omega);have hub:=M4 (lo:=lo) (H:=H1) (ws:=ws) (a:=a) (hby a) byO;have hy1:=hby a;replace e1:x1[o1]?=some (aD (wd ws a)):=e1;refine aP ?_ ?_<;>intro h
 ·exfalso;first|(rw[hd]at h;cases h)|cases h
 clear h hd;generalize wd ws a=v1 at *;have hul:=oS ws a;generalize unm ws a=d at *;(try simp only[aB]);refine dh ?_;refine fV (first:=#[]) (cap:=#[]) (args:=[aD v1,aD (a+1)]) hub ?_;rintro r H' ⟨rfl,rfl⟩;clear hub g1 i1 e1;have hm1:=hm0.set (c:=sb) (x:=snC (a+1) m t u ad n f) (.inl rfl);refine aL ?_;change wpS cp lo _ _ _ (List.set H1 sb (some (snC (a+1) m t u ad n f)));have gs1:Heap.get (List.set H1 sb (some (snC (a+1) m t u ad n f))) sb=some (snC (a+1) m t u ad n f):=aF hsb;have gr1:Heap.get (List.set H1 sb (some (snC (a+1) m t u ad n f))) rb=some zC:=by rw[aH hne];exact gr
 generalize List.set H1 sb (some (snC (a+1) m t u ad n f))=H2 at *;clear hm0 gs gr hsb hrb;have hsb:=hm1.sbH;have hrb:=hm1.rbH;by_cases h0:d=0
 ·rw[if_pos h0]at hR
  subst h0 hR;refine aP ?_ ?_<;>intro h
  ·clear h
   refine aL ?_;refine bM ?_;exact(hm1.set (.inr rfl)).inl rfl byO rfl
  ·simp at h
 rw[if_neg h0]at hR;have hd:decide ((d:Int)=0)=false:=decide_eq_false byO;refine aP ?_ ?_<;>intro h
 ·exfalso;first|(rw[hd]at h;cases h)|cases h
 clear h hd h0;(try simp only[aB]);refine lM (fun S' H'=>(∃a2 d,(False\/oL ws d a2 out=R)/\(out.length+2*(ws.length-a2)<=16400/\a2<=ws.length/\d<=2000)/\ScM A0.length G H' b0 sb rb rb out ad n/\H'.get sb=some (snC a2 m t u ad n f)/\H'.get rb=some zC/\∃(z:Nat->Value),S'=[.slice aw ws.length cw,z 1,.pointer (some ⟨sb,0,none⟩),.pointer (some ⟨rb,0,none⟩),z 4,aD d,z 6,z 7,z 8,z 9,z 10,z 11,z 12,z 13])) ?_ ?_
 ·by_cases h250:d<250
  ·rw[if_pos h250]at hR
   refine aP ?_ ?_<;>intro h
   ·exfalso;simp at h;omega
   clear h;(try simp only[aB]);exact⟨a+1,d,.inr hR,⟨byO,byO,byO⟩,hm1,gs1,gr1,aR rfl⟩
  rw[if_neg h250]at hR;refine aP ?_ ?_<;>intro h
  ·clear h
   (try simp only[aB]);by_cases ha2:ws.length<=a+1
   ·rw[if_pos ha2]at hR
    have hd:decide (((a+1:Nat):Int)>=(ws.length:Nat))=true:=decide_eq_true byO;subst hR;refine aP ?_ ?_<;>intro h
    ·clear h
     refine aL ?_;refine bM ?_;exact(hm1.set (.inr rfl)).inl rfl byO rfl
    ·exfalso;first|(rw[hd]at h;cases h)|cases h
   rw[if_neg ha2]at hR;have hd:decide (((a+1:Nat):Int)>=(ws.length:Nat))=false:=decide_eq_false byO;obtain⟨b1,o1,x1,i1,g1,e1⟩:=jQ (hwx _ _ _ _ hm1) (show a+1<ws.length by omega);have hub:=M4 (lo:=lo) (H:=H2) (ws:=ws) (a:=a+1) (hby (a+1)) byO;have hy1:=hby (a+1);replace e1:x1[o1]?=some (aD (wd ws (a+1))):=e1;refine aP ?_ ?_<;>intro h
   ·exfalso;first|(rw[hd]at h;cases h)|cases h
   clear h hd;generalize wd ws (a+1)=v2 at *;have hul2:=oS ws (a+1);generalize unm ws (a+1)=d2 at *;(try simp only[aB]);refine dh ?_;refine fV (first:=#[]) (cap:=#[]) (args:=[aD v2,aD (a+1+1)]) hub ?_;rintro r H' ⟨rfl,rfl⟩;clear hub g1 i1 e1;have hm2:=hm1.set (c:=sb) (x:=snC (a+2) m t u ad n f) (.inl rfl);refine aL ?_;change wpS cp lo _ _ _ (List.set H2 sb (some (snC (a+2) m t u ad n f)));have gs2:Heap.get (List.set H2 sb (some (snC (a+2) m t u ad n f))) sb=some (snC (a+2) m t u ad n f):=aF hsb;have gr2:Heap.get (List.set H2 sb (some (snC (a+2) m t u ad n f))) rb=some zC:=by rw[aH hne];exact gr1
   generalize List.set H2 sb (some (snC (a+2) m t u ad n f))=H3 at *;clear hm1 gs1 gr1 hsb hrb;have hsb:=hm2.sbH;have hrb:=hm2.rbH;by_cases h9:250<=d2
   ·rw[if_pos h9]at hR
    subst hR;refine aP ?_ ?_<;>intro h
    ·clear h
     refine aL ?_;refine bM ?_;exact(hm2.set (.inr rfl)).inl rfl byO rfl
    ·exfalso;simp at h;omega
   rw[if_neg h9]at hR;refine aP ?_ ?_<;>intro h
   ·exfalso;simp at h;omega
   clear h;have hd5:(250:Int)*((d:Int)-249)+(d2:Nat)=((250*(d-249)+d2:Nat):Int):=byO;have hd6:250*(d-249)+d2<=2000:=byO;generalize 250*(d-249)+d2=d3 at *;refine aL ?_;exact⟨a+2,d3,.inr hR,⟨byO,byO,byO⟩,hm2,gs2,gr2,aR ncM⟩
  ·exfalso;simp at h;omega
 clear hR hm1 gs1 gr1 hsb hrb hul;rintro S' H2 ⟨a2,d,hR,⟨hB2,ha2,hd2⟩,hm2,gs,gr,z,rfl⟩;refine aL ?_;refine aa (fun k S H'=>(∃o ad n,(False\/oL ws (d-k) (a2+k) o=R)/\(o.length+2*(ws.length-(a2+k))<=16400/\a2+k<=ws.length)/\ScM A0.length G H' b0 sb rb rb o ad n/\H'.get sb=some (snC (a2+k) m t u ad n f)/\H'.get rb=some zC)/\∃(z:Nat->Value),S=[.slice aw ws.length cw,z 1,.pointer (some ⟨sb,0,none⟩),.pointer (some ⟨rb,0,none⟩),z 4,aD d,z 6,.int .i64 (k:Nat),z 8,z 9,z 10,z 11,z 12,z 13]) d ?_ ?_ ?_ ?_
 ·exact⟨⟨out,ad,n,hR,⟨hB2,ha2⟩,hm2,gs,gr⟩,aR rfl⟩
 ·rintro k S H' hk ⟨-,z,rfl⟩
  exact⟨decide ((k:Int)<(d:Nat)),by simp(disch:=try exact dO)only[evB,xtr,Nat.reduceAdd,Nat.reduceBEq,Int.reduceToNat, *],by simp⟩
 ·clear hR hB2 ha2 hm2 gs gr
  rintro k S H' hk ⟨⟨o,ad,n,hR,⟨hB2,ha2⟩,hm2,gs,gr⟩,z,rfl⟩;obtain⟨y,hy⟩:∃y,d-k=y+1:=⟨d-k-1,byO⟩;rw[hy]at hR;have hR2:(if ws.length<=a2+k then .inl 10 else oL ws y (a2+k+1) (o++[UInt8.ofNat (unm ws (a2+k))]))=R:=hR.resolve_left id;clear hR;have hk2:y=d-(k+1):=byO;have hak:a2+(k+1)=a2+k+1:=byO;rw[hk2]at hR2;rw[hak];clear hy hk2 hak;generalize a2+k=a at *;have hsb:=hm2.sbH;have hrb:=hm2.rbH;by_cases ha:ws.length<=a
  ·rw[if_pos ha]at hR2
   have hd:decide ((a:Int)>=(ws.length:Nat))=true:=decide_eq_true byO;subst hR2;(try simp only[aB]);refine aP ?_ ?_<;>intro h
   ·clear h
    refine aL ?_;refine bM ?_;exact(hm2.set (.inr rfl)).inl rfl byO rfl
   ·exfalso;first|(rw[hd]at h;cases h)|cases h
  rw[if_neg ha]at hR2;have hd:decide ((a:Int)>=(ws.length:Nat))=false:=decide_eq_false byO;obtain⟨b1,o1,x1,i1,g1,e1⟩:=jQ (hwx _ _ _ _ hm2) (show a<ws.length by omega);have hub:=M4 (lo:=H'.length) (H:=H') (ws:=ws) (a:=a) (hby a) byO;have hy1:=hby a;replace e1:x1[o1]?=some (aD (wd ws a)):=e1;replace hR2:False\/_:=.inr hR2;(try simp only[aB]);refine aP ?_ ?_<;>intro h
  ·exfalso;first|(rw[hd]at h;cases h)|cases h
  clear h hd;generalize wd ws a=v2 at *;have hul2:=oS ws a;generalize unm ws a=c at *;(try simp only[aB]);refine dh ?_;refine aN hub ?_;rintro r H5 ⟨rfl,rfl⟩;clear hub g1 i1 e1;refine aL ?_;rw[<-de (n:=c) byO];refine dh ?_;refine rI (k:=1) (l:=[UInt8.ofNat c]) hm2 hA hlo rfl byO byO ?_;rintro ad' q' H6 hm6 e1 e2 -;have gs:=e1.trans gs;have gr:=e2.trans gr;clear e1 e2 hm2;have hsb:=hm6.sbH;have hm7:=(hm6.set (c:=sb) (x:=snC a m t u ad' q' f) (.inl rfl)).set (c:=sb) (x:=snC (a+1) m t u ad' q' f) (.inl rfl);have hl7:sb<(List.set H6 sb (some (snC a m t u ad' q' f))).length:=by simpa using hsb
  refine aL ?_;exact⟨⟨_,ad',q',hR2,⟨by simp;omega,byO⟩,hm7,aF hl7,by rw[aH hne,aH hne];exact gr⟩,aR ncM⟩
 ·rintro S H' ⟨⟨o,ad,n,hR,⟨hB2,ha2⟩,hm2,gs,gr⟩,z,rfl⟩
  have hsb:=hm2.sbH;have hrb:=hm2.rbH;rw[Nat.sub_self]at hR;have hR2:(.inr (a2+d,o):Rd)=R:=hR.resolve_left id;clear hR;subst hR2;generalize a2+d=a at *;refine aL ?_;refine bM ?_;exact(hm2.set (.inr rfl)).inr rfl rfl
end
def btS(ws:List Nat)(a k:Nat):Nat:=wd ws (a+k/8)/2^(7-k%8)%2
def vbS(ws:List Nat)(a bit:Nat):Nat->Nat
 | 0=>0
 | j+1=>2*vbS ws a bit j+btS ws a (bit+j)
theorem fo{ws:List Nat}{a q i:Nat}(h:i<8):btS ws a (8*q+i)=wd ws (a+q)/2^(7-i)%2:=by
 unfold btS;rw[show(8*q+i)/8=q by omega,show(8*q+i)%8=i by omega]
theorem rz{ws:List Nat}{a q i:Nat}(h:i<8):btS ws a (8*q+(8+i))=wd ws (a+(q+1))/2^(7-i)%2:=by
 unfold btS;rw[show(8*q+(8+i))/8=q+1 by omega,show(8*q+(8+i))%8=i by omega]
theorem Er{ws:List Nat}{a bit:Nat}(hby:∀k,wd ws k<=255)(hb:bit%2=0):vbS ws a bit 6=kz ws a bit:=by
 obtain⟨q,r,rfl,hr⟩:∃q r,bit=8*q+r/\(r=0\/r=2\/r=4\/r=6):=⟨bit/8,bit%8,byO,byO⟩;have h0:=hby (a+q);have h1:=hby (a+(q+1));unfold kz;rw[show(8*q+r)/8=q by omega,show(8*q+r)%8=r by omega];show 2*(2*(2*(2*(2*(2*0+btS ws a (8*q+(r+0)))+btS ws a (8*q+(r+1)))+btS ws a (8*q+(r+2)))+btS ws a (8*q+(r+3)))+btS ws a (8*q+(r+4)))+btS ws a (8*q+(r+5))=_;rcases hr with rfl|rfl|rfl|rfl
 ·rw[fo byO,fo byO,fo byO,fo byO,fo byO,fo byO,if_neg byO]
  generalize wd ws (a+q)=w0 at *;simp only[Nat.reduceSub,Nat.reducePow,Nat.reduceAdd];omega
 ·rw[fo byO,fo byO,fo byO,fo byO,fo byO,fo byO,if_neg byO]
  generalize wd ws (a+q)=w0 at *;simp only[Nat.reduceSub,Nat.reducePow,Nat.reduceAdd];omega
 ·rw[fo byO,fo byO,fo byO,fo byO,show 4+4=8+0 from rfl,show 4+5=8+1 from rfl,rz byO,rz byO,if_pos byO,show(8*q+4+5)/8=q+1 by omega]
  generalize wd ws (a+q)=w0 at *;generalize wd ws (a+(q+1))=w1 at *;simp only[Nat.reduceSub,Nat.reducePow,Nat.reduceAdd];omega
 ·rw[fo byO,fo byO,show 6+2=8+0 from rfl,show 6+3=8+1 from rfl,show 6+4=8+2 from rfl,show 6+5=8+3 from rfl,rz byO,rz byO,rz byO,rz byO,if_pos byO,show(8*q+6+5)/8=q+1 by omega]
  generalize wd ws (a+q)=w0 at *;generalize wd ws (a+(q+1))=w1 at *;simp only[Nat.reduceSub,Nat.reducePow,Nat.reduceAdd];omega
theorem Ep(ws:List Nat)(a bit:Nat):∀j,vbS ws a bit j<2^j
 | 0=>by simp[vbS]
 | j+1=>by
  have:=Ep ws a bit j;have h2:btS ws a (bit+j)<2:=Nat.mod_lt _ byO;rw[Nat.pow_succ];simp only[vbS];omega
section
variable {b0 n m t a lo:Nat}{A0 G:Heap}{out:List UInt8}{ad:Option Addr}{u f:Bool}{wv:Value}{ws:List Nat}
open XKa
theorem Rn{g:Nat}(h:Own A0.length 1 G (.slice ad n n) b0 (uU out))(hx:Ext A0 G)(hw:SlN A0 wv ws)(hlo:lo<=A0.length)(hB:out.length+2*(ws.length-a)<=16400)(hal:a<=ws.length)(hwl:ws.length<=8192)(hby:∀k,wd ws k<=255)(hg:8*ws.length+6<=6*g) :
  Ev cp lo 92 [wv,.agg #[aD a,aD m,aD t,.bool u,.slice ad n n,.bool f]] G (fun r H'=>xk A0.length b0 G r H' (rdR 0 0 false false (mD ws a g 0 out))):=by
 have hA:=hx.1;have hlG:lo<=G.length:=byO;have hb0:=h.1;obtain⟨aw,cw,rfl⟩:=hw.len;generalize hR:mD ws a g 0 out=R;refine stG rfl rfl ?_;unfold Na;simp only[kB,aB];refine aL ?_;have hm0:=ScM.start (x:=snC a m t u ad n f) (y:=zC) h hA;have gs:(G++[some (snC a m t u ad n f),some zC]).get G.length=some (snC a m t u ad n f):=aK;have gr:(G++[some (snC a m t u ad n f),some zC]).get (G.length+1)=some zC:=by rw[bI];rfl
 generalize G++[some (snC a m t u ad n f),some zC]=H1 at *;generalize G.length+1=rb at *;have hne:=hm0.ne;have hrg:=hm0.rbG;have hwx:=fun(H:Heap) (out:List UInt8) (ad:Option Addr) (n:Nat) (h:ScM A0.length G H b0 G.length rb rb out ad n)=>hw.mono (h.ext hx hb0);generalize G.length=sb at *;refine aY (fun i S H'=>(∃N g o ad n,(False\/mD ws a g (6*N) o=R)/\((6*N<=8*(ws.length-a)/\i=8*ws.length-6*N)/\8*ws.length+6<=6*g+6*N/\o.length<=out.length+N)/\ScM A0.length G H' b0 sb rb rb o ad n/\H'.get sb=some (snC a m t u ad n f)/\H'.get rb=some zC/\∃(z:Nat->Value),S=[.slice aw ws.length cw,z 1,.pointer (some ⟨sb,0,none⟩),.pointer (some ⟨rb,0,none⟩),z 4,.int .i64 (N:Nat),z 6,z 7,z 8,z 9,z 10,z 11,z 12,z 13])) (8*ws.length) ?_ ?_
 ·exact⟨0,g,out,ad,n,.inr hR,⟨⟨byO,byO⟩,byO,byO⟩,hm0,gs,gr,aR rfl⟩
 clear hR hm0 gs gr hg;rintro i S H' ⟨N,g,o,ad,n,hR,⟨⟨hN,hi⟩,hg,hol⟩,hm2,gs,gr,z,rfl⟩;replace hi:i<=8*ws.length-6*N/\8*ws.length-6*N<=i:=byO;obtain⟨g,rfl⟩:∃q,g=q+1:=⟨g-1,byO⟩;have hR2:(if ws.length<=a+(6*N+5)/8 then .inl 10 else if kz ws a (6*N)=31 then(if wd ws (a+(6*N+5)/8)%2^((8-(6*N+6)%8)%8)≠0 then .inl 22 else .inr (a+(6*N+5)/8+1,o)) else mD ws a g (6*N+6) (o++[UInt8.ofNat (if kz ws a (6*N)<32 then kz ws a (6*N)+64 else kz ws a (6*N))]))=R:=hR.resolve_left id;replace hR2:False\/_:=.inr hR2;clear hR;have hsb:=hm2.sbH;have hrb:=hm2.rbH;refine aL ?_;have hb6:(6*N)%2=0:=byO;generalize hbit:6*N=bit at *;have hbi:(6:Int)*(N:Nat)=(bit:Nat):=byO;have hNb:N*6<=bit/\bit<=N*6:=byO;clear hbit;rw[hbi];refine aa (fun j S' K=>(H'=K/\(j=0\/a+(bit+j-1)/8<ws.length))/\∃(z:Nat->Value),S'=[.slice aw ws.length cw,z 1,.pointer (some ⟨sb,0,none⟩),.pointer (some ⟨rb,0,none⟩),z 4,.int .i64 (N:Nat),.int .i64 (vbS ws a bit j:Nat),.int .i64 ((bit+j:Nat):Int),z 8,z 9,z 10,z 11,z 12,z 13]) 6 ?_ ?_ ?_ ?_
 ·exact⟨⟨rfl,.inl rfl⟩,aR rfl⟩
 ·rintro j S K hj ⟨-,z,rfl⟩
  exact⟨decide (((bit+j:Nat):Int)<(bit:Nat)+6),by simp(disch:=try exact dO)only[evB,xtr,Nat.reduceAdd,Nat.reduceBEq,Int.reduceToNat, *],by simp;omega⟩
 ·rintro j S K hj ⟨⟨rfl,hjl⟩,z,rfl⟩
  have q1:((bit+j:Nat):Int).tdiv 8=(((bit+j)/8:Nat):Int):=by rw[Int.tdiv_eq_ediv_of_nonneg byO];omega
  have q2:((bit+j:Nat):Int).tmod 8=(((bit+j)%8:Nat):Int):=by rw[Int.tmod_eq_emod_of_nonneg byO];omega
  have hr7:(bit+j)%8<=7:=byO;have hvs:vbS ws a bit (j+1)=2*vbS ws a bit j+wd ws (a+(bit+j)/8)/2^(7-(bit+j)%8)%2:=rfl;have hvl:vbS ws a bit j<64:=bc₀ (Ep ws a bit j) (show 2^j<=2^6 from Nat.pow_le_pow_right (by decide) byO);have hi1:(bit+j)/8<=(bit+5)/8:=byO;have hbj:bit+j<=70000:=byO;have hbk:bit+(j+1)=bit+j+1:=byO;have hlst:(bit+j+1-1)/8=(bit+j)/8:=byO;rw[hbk,hlst];generalize (bit+j)/8=i1 at *;generalize (bit+j)%8=r at *;generalize bit+j=k at *;generalize vbS ws a bit (j+1)=v1 at *;generalize vbS ws a bit j=v at *;clear hbk hlst;refine aL ?_;by_cases hl:ws.length<=a+i1
  ·have hd:decide ((a:Int)+(i1:Nat)>=(ws.length:Nat))=true:=decide_eq_true byO
   have h2:=hR2.resolve_left id;rw[if_pos byO]at h2;subst h2;clear hR2;refine aP ?_ ?_<;>intro h
   ·clear h
    refine aL ?_;refine bM ?_;exact(hm2.set (.inr rfl)).inl rfl byO rfl
   ·exfalso;first|(rw[hd]at h;cases h)|cases h
  have hd:decide ((a:Int)+(i1:Nat)>=(ws.length:Nat))=false:=decide_eq_false byO;refine aP ?_ ?_<;>intro h
  ·exfalso;first|(rw[hd]at h;cases h)|cases h
  clear h hd;obtain⟨b1,o1,x1,ia,g1,e1⟩:=jQ (hwx _ _ _ _ hm2) (show a+i1<ws.length by omega);have hy1:=hby (a+i1);replace e1:x1[o1]?=some (aD (wd ws (a+i1))):=e1;simp only[ap₀]at ia;generalize wd ws (a+i1)=w1 at *;have hfd:=JN (a:=w1) (b:=2^(7-r)) (7-r) rfl byO;simp only[Int.toNat_natCast]at hfd;have hf7:(7:Int)-(r:Nat)=((7-r:Nat):Int):=byO;obtain⟨y,hy⟩:∃y,w1/2^(7-r)=y:=⟨_,rfl⟩;have hyl:y<=255:=by rw[<-hy];exact Nat.le_trans (Nat.div_le_self _ _) hy1
  rw[hy]at hfd hvs;have hand:IntKind.i64.wrap ((BitVec.ofInt IntKind.i64.bits ((y:Nat):Int) &&& BitVec.ofInt IntKind.i64.bits ((1:Nat):Int)).toNat:Int)=((y%2:Nat):Int):=by rw[tR byO byO,Nat.and_one_is_mod]
  simp only[Int.cast_ofNat_Int]at hand;have hy2:y%2<2:=Nat.mod_lt _ byO;generalize y%2=y2 at *;clear hy hR2;replace hvs:v1<=2*v+y2/\2*v+y2<=v1:=byO;refine aL ?_;rw[show(v1:Int)=2*(v:Int)+(y2:Nat) by omega];exact⟨⟨by trivial,.inr byO⟩,aR ncM⟩
 rintro S K ⟨⟨rfl,hjl⟩,z,rfl⟩;rw[Er hby hb6];have hlast:a+(bit+5)/8<ws.length:=by
  rcases hjl with h|h
  ·omega
  ·exact h
 have h2:=hR2.resolve_left id;rw[if_neg byO]at h2;replace h2:False\/_:=.inr h2;clear hR2 hjl;have hvl:kz ws a bit<64:=by rw[<-Er hby hb6];exact Ep ws a bit 6
 generalize kz ws a bit=x at *;(try simp only[aB]);by_cases h31:x=31
 ·have h3:=h2.resolve_left id
  rw[if_pos h31]at h3;subst h31;have q6:((bit:Int)+5).tdiv 8=(((bit+5)/8:Nat):Int):=by rw[Int.tdiv_eq_ediv_of_nonneg byO];omega
  have q7:((bit:Int)+5).tmod 8=(((bit+5)%8:Nat):Int):=by rw[Int.tmod_eq_emod_of_nonneg byO];omega
  have q8:(8-(bit+6)%8)%8=7-(bit+5)%8:=byO;rw[q8]at h3;obtain⟨b1,o1,x1,ia,g1,e1⟩:=jQ (hwx _ _ _ _ hm2) hlast;have hy1:=hby (a+(bit+5)/8);replace e1:x1[o1]?=some (aD (wd ws (a+(bit+5)/8))):=e1;simp only[ap₀]at ia;generalize wd ws (a+(bit+5)/8)=w1 at *;have hr7:(bit+5)%8<=7:=byO;generalize (bit+5)/8=i1 at *;generalize (bit+5)%8=r at *;have e8:(8:Int)-((r:Nat)+1)=((7-r:Nat):Int):=byO;have hrs:7-r<=7:=byO;generalize 7-r=rs at *;have hp1:1<=2^rs:=Nat.one_le_two_pow;have hp2:2^rs<=128:=Nat.le_trans (Nat.pow_le_pow_right (by decide) hrs) (by decide);have hs1:IntKind.i64.wrap (1*2^(min rs IntKind.i64.bits))=((2^rs:Nat):Int):=by
   have e:min rs IntKind.i64.bits=rs:=by show min rs 64=rs;omega
   rw[e,show(1:Int)*2^rs=((2^rs:Nat):Int) by simp];exact wi byO
  have hs1':IntKind.i64.wrap (2^(min rs IntKind.i64.bits))=((2^rs:Nat):Int):=by rw[<-hs1,Int.one_mul]
  have hmod:(w1:Int).tmod ((2^rs:Nat):Int)=((w1%2^rs:Nat):Int):=by rw[Int.tmod_eq_emod_of_nonneg byO];rfl
  obtain⟨pw,hpw⟩:∃pw,2^rs=pw:=⟨_,rfl⟩;rw[hpw]at hs1 hs1' hmod hp1 h3;obtain⟨z2,hz2⟩:∃z2,w1%pw=z2:=⟨_,rfl⟩;rw[hz2]at hmod h3;have hpn:(pw:Int)≠0:=byO;clear hpw hz2 h2 q8;replace h3:False\/_:=.inr h3;refine aP ?_ ?_<;>intro h
  ·simp at h
  clear h;refine aL ?_;by_cases hz:z2=0
  ·have h4:=h3.resolve_left id
   rw[if_neg byO]at h4;subst h4;clear h3;have hd:decide ((z2:Int)≠0)=false:=decide_eq_false byO;refine aP ?_ ?_<;>intro h
   ·exfalso;first|(rw[hd]at h;cases h)|cases h
   clear h hd;refine aL ?_;refine bM ?_;exact(hm2.set (.inr rfl)).inr rfl rfl
  ·have h4:=h3.resolve_left id
   rw[if_pos hz]at h4;subst h4;clear h3;have hd:decide ((z2:Int)≠0)=true:=decide_eq_true byO;refine aP ?_ ?_<;>intro h
   ·clear h hd
    refine aL ?_;refine bM ?_;exact(hm2.set (.inr rfl)).inl rfl byO rfl
   ·exfalso;first|(rw[hd]at h;cases h)|cases h
 have h3:=h2.resolve_left id;rw[if_neg h31]at h3;replace h3:False\/_:=.inr h3;have hd:decide ((x:Int)≠31)=true:=decide_eq_true byO;refine aP ?_ ?_<;>intro h
 ·clear h hd
  have q5:(x:Int).tdiv 32=((x/32:Nat):Int):=by rw[Int.tdiv_eq_ediv_of_nonneg byO];omega
  have hq5:(x:Int)+64-64*((x/32:Nat):Int)=((if x<32 then x+64 else x:Nat):Int):=by split<;>omega
  have hy:(if x<32 then x+64 else x)<=255:=by split<;>omega
  generalize (if x<32 then x+64 else x)=y at *;have hx2:x/32<=1:=byO;generalize x/32=x2 at *;refine aL ?_;rw[<-de (n:=y) byO];refine dh ?_;refine rI (k:=1) (l:=[UInt8.ofNat y]) hm2 hA hlo rfl byO byO ?_;rintro ad' q' H6 hm6 e1 e2 -;have gs:=e1.trans gs;have gr:=e2.trans gr;clear e1 e2 hm2;have hsb:=hm6.sbH;have hm7:=hm6.set (c:=sb) (x:=snC a m t u ad' q' f) (.inl rfl);refine aL ?_;simp only[ak];exact⟨8*ws.length-(bit+6),byO,N+1,g,_,ad',q',by rw[show 6*(N+1)=bit+6 by omega];exact h3,⟨⟨byO,byO⟩,byO,by simp;omega⟩,hm7,aF hsb,by rw[aH hne];exact gr,aR ncM⟩
 ·exfalso;first|(rw[hd]at h;cases h)|cases h
end
def B5(ws:List Nat)(a:Nat)(out:List UInt8):Nat ⊕ (Nat×Nat×Nat×Bool×List UInt8×Bool):=
 if 1<=wd ws a/\wd ws a<=128 then .inr (a+1,0,0,false,out++[UInt8.ofNat (wd ws a-1)],false)
 else if wd ws a=129 then .inr (a+1,0,0,false,out,true)
 else if 130<=wd ws a/\wd ws a<230 then .inr (a+1,0,0,false,out++[UInt8.ofNat (48+(wd ws a-130)/10),UInt8.ofNat (48+(wd ws a-130)%10)],false)
 else if wd ws a=230 then .inr (a+1,1,0,false,out,false)
 else if wd ws a=231 then rdR 0 0 false false (rW ws (a+1) out)
 else if wd ws a=235 then rdR 0 0 false false (upS ws (a+1) out)
 else if wd ws a=238 then .inr (a+1,3,0,false,out,false)
 else if wd ws a=239 then .inr (a+1,2,0,false,out,false)
 else if wd ws a=240 then .inr (a+1,4,0,false,out,false)
 else .inl 22
section
variable {b0 n a lo:Nat}{A0 G:Heap}{out:List UInt8}{ad:Option Addr}{wv:Value}{ws:List Nat}
open XKa
theorem SE(h:Own A0.length 1 G (.slice ad n n) b0 (uU out))(hx:Ext A0 G)(hw:SlN A0 wv ws)(hlo:lo<=A0.length)(hB:out.length+2*(ws.length-a)<=16400)(hal:a<ws.length)(hwl:ws.length<=8192)(hby:∀k,wd ws k<=255) :
  Ev cp lo 91 [wv,.agg #[aD a,aD 0,aD 0,.bool false,.slice ad n n,.bool false]] G (fun r H'=>xk A0.length b0 G r H' (B5 ws a out)):=by
 have hA:=hx.1;have hlG:lo<=G.length:=byO;have hb0:=h.1;obtain⟨aw,cw,rfl⟩:=hw.len;generalize hR:B5 ws a out=R;unfold B5 at hR;have hup:upS ws (a+1) out=if ws.length<=a+1 then .inl 10 else if wd ws (a+1)<1\/128<wd ws (a+1) then .inl 22 else .inr (a+1+1,out++[UInt8.ofNat (wd ws (a+1)+127)]):=rfl
 refine stG rfl rfl ?_;unfold N9;simp only[kB,aB];refine aL ?_;have hm0:=ScM.start (x:=snC a 0 0 false ad n false) (y:=zC) h hA;have gs:(G++[some (snC a 0 0 false ad n false),some zC]).get G.length=some (snC a 0 0 false ad n false):=aK;have gr:(G++[some (snC a 0 0 false ad n false),some zC]).get (G.length+1)=some zC:=by rw[bI];rfl
 generalize G++[some (snC a 0 0 false ad n false),some zC]=H1 at *;generalize G.length+1=rb at *;have hne:=hm0.ne;have hrg:=hm0.rbG;have hsb:=hm0.sbH;have hrb:=hm0.rbH;have hwx:=fun(H:Heap) (out:List UInt8) (ad:Option Addr) (n:Nat) (h:ScM A0.length G H b0 G.length rb rb out ad n)=>hw.mono (h.ext hx hb0);have hxx:=fun(H:Heap) (out:List UInt8) (ad:Option Addr) (n:Nat) (h:ScM A0.length G H b0 G.length rb rb out ad n)=>h.ext hx hb0;generalize G.length=sb at *;obtain⟨b1,o1,x1,i1,g1,e1⟩:=jQ (hwx _ _ _ _ hm0) hal;have hy1:=hby a;replace e1:x1[o1]?=some (aD (wd ws a)):=e1;generalize wd ws a=w at *;refine aL ?_;change wpS cp lo _ _ _ (List.set H1 sb (some (snC (a+1) 0 0 false ad n false)));have hm1:=hm0.set (c:=sb) (x:=snC (a+1) 0 0 false ad n false) (.inl rfl);have gs1:Heap.get (List.set H1 sb (some (snC (a+1) 0 0 false ad n false))) sb=some (snC (a+1) 0 0 false ad n false):=aF hsb;have gr1:Heap.get (List.set H1 sb (some (snC (a+1) 0 0 false ad n false))) rb=some zC:=by rw[aH hne];exact gr
 generalize List.set H1 sb (some (snC (a+1) 0 0 false ad n false))=H2 at *;clear hm0 gs gr hsb hrb i1 g1 e1;have hsb:=hm1.sbH;have hrb:=hm1.rbH;by_cases hc:1<=w/\w<=128
 ·rw[if_pos hc]at hR
  subst hR;have hd:(decide ((w:Int)>=1)&&decide ((w:Int)<=128))=true:=by simp;omega
  have e3:(w:Int)-1=((w-1:Nat):Int):=byO;have hx9:w-1<=255:=byO;refine aP ?_ ?_<;>intro h
  ·clear h hd
   generalize w-1=x at *;refine aL ?_;rw[<-de (n:=x) byO];refine dh ?_;refine rI (k:=1) (l:=[UInt8.ofNat x]) hm1 hA hlo rfl byO byO ?_;rintro ad' q' H6 hm6 e1 e2 -;have gs:=e1.trans gs1;have gr:=e2.trans gr1;clear e1 e2 hm1;have hsb:=hm6.sbH;have hrb:=hm6.rbH;refine aL ?_;refine bM ?_;exact((hm6.set (.inl rfl)).set (.inr rfl)).inr rfl rfl
  ·exfalso;first|(rw[hd]at h;cases h)|cases h
 rw[if_neg hc]at hR;have hd:(decide ((w:Int)>=1)&&decide ((w:Int)<=128))=false:=by simp only[Bool.and_eq_false_iff,ai₀];omega
 refine aP ?_ ?_<;>intro h
 ·exfalso;first|(rw[hd]at h;cases h)|cases h
 clear h hd hc;(try simp only[aB]);by_cases hc:w=129
 ·rw[if_pos hc]at hR
  have hd:decide ((w:Int)=129)=true:=decide_eq_true byO;refine aP ?_ ?_<;>intro h
  ·clear h hd
   (try simp only[aB]);subst hR;refine aL ?_;refine bM ?_;exact((hm1.set (.inl rfl)).set (.inr rfl)).inr rfl rfl
  ·exfalso;first|(rw[hd]at h;cases h)|cases h
 rw[if_neg hc]at hR;have hd:decide ((w:Int)=129)=false:=decide_eq_false byO;refine aP ?_ ?_<;>intro h
 ·exfalso;first|(rw[hd]at h;cases h)|cases h
 clear h hd hc;(try simp only[aB]);by_cases hc:130<=w/\w<230
 ·rw[if_pos hc]at hR
  subst hR;have hd:(decide ((w:Int)>=130)&&decide ((w:Int)<=229))=true:=by simp;omega
  have e3:(w:Int)-130=((w-130:Nat):Int):=byO;have hx9:w-130<=99:=byO;refine aP ?_ ?_<;>intro h
  ·clear h hd
   generalize w-130=x at *;have q1:(x:Int).tdiv 10=((x/10:Nat):Int):=by rw[Int.tdiv_eq_ediv_of_nonneg byO];omega
   have q2:(x:Int).tmod 10=((x%10:Nat):Int):=by rw[Int.tmod_eq_emod_of_nonneg byO];omega
   have r1:x/10<=9:=byO;have r2:x%10<=9:=byO;generalize x/10=y1 at *;generalize x%10=y2 at *;refine aL ?_;change wpS cp lo _ _ _ (H2++[some [Value.int .u8 ((48+y1:Nat):Int),Value.int .u8 ((48+y2:Nat):Int)]]);rw[<-de (n:=48+y1) byO,<-de (n:=48+y2) byO];refine dh ?_;refine rI (k:=2) (l:=[UInt8.ofNat (48+y1),UInt8.ofNat (48+y2)]) hm1 hA hlo rfl byO byO ?_;rintro ad' q' H6 hm6 e1 e2 -;have gs:=e1.trans gs1;have gr:=e2.trans gr1;clear e1 e2 hm1;have hsb:=hm6.sbH;have hrb:=hm6.rbH;refine aL ?_;refine bM ?_;exact((hm6.set (.inl rfl)).set (.inr rfl)).inr rfl rfl
  ·exfalso;first|(rw[hd]at h;cases h)|cases h
 rw[if_neg hc]at hR;have hd:(decide ((w:Int)>=130)&&decide ((w:Int)<=229))=false:=by simp only[Bool.and_eq_false_iff,ai₀];omega
 refine aP ?_ ?_<;>intro h
 ·exfalso;first|(rw[hd]at h;cases h)|cases h
 clear h hd hc;(try simp only[aB]);by_cases hc:w=230
 ·rw[if_pos hc]at hR
  have hd:decide ((w:Int)=230)=true:=decide_eq_true byO;refine aP ?_ ?_<;>intro h
  ·clear h hd
   (try simp only[aB]);subst hR;refine aL ?_;refine bM ?_;exact((hm1.set (.inl rfl)).set (.inr rfl)).inr rfl rfl
  ·exfalso;first|(rw[hd]at h;cases h)|cases h
 rw[if_neg hc]at hR;have hd:decide ((w:Int)=230)=false:=decide_eq_false byO;refine aP ?_ ?_<;>intro h
 ·exfalso;first|(rw[hd]at h;cases h)|cases h
 clear h hd hc;(try simp only[aB]);by_cases hc:w=231
 ·rw[if_pos hc]at hR
  have hd:decide ((w:Int)=231)=true:=decide_eq_true byO;refine aP ?_ ?_<;>intro h
  ·clear h hd
   (try simp only[aB]);obtain⟨b,hb1,hb2,ho⟩:=hm1.own;have hbp:=Mm (lo:=lo) (a:=a+1) (m:=0) (t:=0) (u:=false) (f:=false) ho (hxx _ _ _ _ hm1) hw hlo byO byO hwl hby;refine dh ?_;refine aA hbp ?_;intro r H5 hr;clear hbp;rw[<-hR];cases hbd:rW ws (a+1) out with
   | inl e=>
    rw[hbd]at hr;obtain⟨⟨a',m',t2,u2,ad',n',f',rfl⟩,he,hk5⟩:=hr;have gr5:=hk5.get gr1 (fun e=>hb1.2.1 e.symm);have gs5:=hk5.get gs1 (fun e=>hb1.1 e.symm);have hl5:=hk5.len;have hk6:=dW hm1.keep hb2 hk5;have hrG:=hm1.rbG;clear gs1 gr1 hm1 hb1 hb2 ho hR;refine aL ?_;refine bM ?_;exact⟨⟨_,_,_,_,_,_,_,rfl⟩,he,dW hk6 (.inr hrG) keepSet⟩
   | inr s=>
    rw[hbd]at hr;obtain⟨ad',n',b',rfl,ho',hb',hk5⟩:=hr;obtain⟨hm5,e1,e2,e3⟩:=hm1.step hb1 hb2 ho' hb' hk5;have gs5:=e1.trans gs1;have gr5:=e2.trans gr1;have hsb:=hm5.sbH;have hrb:=hm5.rbH;clear e1 e2 e3 gs1 gr1 hm1 hb1 hb2 ho hb' hk5 ho' hR;refine aL ?_;refine bM ?_;exact(hm5.set (.inr rfl)).inr rfl rfl
  ·exfalso;first|(rw[hd]at h;cases h)|cases h
 rw[if_neg hc]at hR;have hd:decide ((w:Int)=231)=false:=decide_eq_false byO;refine aP ?_ ?_<;>intro h
 ·exfalso;first|(rw[hd]at h;cases h)|cases h
 clear h hd hc;(try simp only[aB]);by_cases hc:w=235
 ·rw[if_pos hc]at hR
  have hd:decide ((w:Int)=235)=true:=decide_eq_true byO;refine aP ?_ ?_<;>intro h
  ·clear h hd
   (try simp only[aB]);rw[hup]at hR;by_cases hl:ws.length<=a+1
   ·rw[if_pos hl]at hR
    subst hR;have hd:decide (((a+1:Nat):Int)=(ws.length:Nat))=true:=decide_eq_true byO;refine aP ?_ ?_<;>intro h
    ·clear h hd
     refine aL ?_;refine bM ?_;exact(hm1.set (.inr rfl)).inl rfl byO rfl
    ·exfalso;first|(rw[hd]at h;cases h)|cases h
   rw[if_neg hl]at hR;have hd:decide (((a+1:Nat):Int)=(ws.length:Nat))=false:=decide_eq_false byO;obtain⟨b1,o1,x1,i1,g1,e1⟩:=jQ (hwx _ _ _ _ hm1) (show a+1<ws.length by omega);have hy2:=hby (a+1);replace e1:x1[o1]?=some (aD (wd ws (a+1))):=e1;generalize wd ws (a+1)=v at *;refine aP ?_ ?_<;>intro h
   ·exfalso;first|(rw[hd]at h;cases h)|cases h
   clear h hd;(try simp only[aB]);by_cases hv:v<1\/128<v
   ·rw[if_pos hv]at hR
    subst hR;have hd:(decide ((v:Int)<1) || decide ((v:Int)>128))=true:=by simp;omega
    refine aP ?_ ?_<;>intro h
    ·clear h hd
     refine aL ?_;refine bM ?_;exact(hm1.set (.inr rfl)).inl rfl byO rfl
    ·exfalso;first|(rw[hd]at h;cases h)|cases h
   rw[if_neg hv]at hR;subst hR;have hd:(decide ((v:Int)<1) || decide ((v:Int)>128))=false:=by simp;omega
   refine aP ?_ ?_<;>intro h
   ·exfalso;first|(rw[hd]at h;cases h)|cases h
   clear h hd;refine aL ?_;change wpS cp lo _ _ _ (H2++[some [Value.int .u8 ((v+127:Nat):Int)]]);rw[<-de (n:=v+127) byO];refine dh ?_;refine rI (k:=1) (l:=[UInt8.ofNat (v+127)]) hm1 hA hlo rfl byO byO ?_;rintro ad' q' H6 hm6 e1 e2 -;have gs:=e1.trans gs1;have gr:=e2.trans gr1;clear e1 e2 hm1;have hsb:=hm6.sbH;have hrb:=hm6.rbH;refine aL ?_;refine bM ?_;exact(((hm6.set (.inl rfl)).set (.inl rfl)).set (.inr rfl)).inr rfl rfl
  ·exfalso;first|(rw[hd]at h;cases h)|cases h
 rw[if_neg hc]at hR;have hd:decide ((w:Int)=235)=false:=decide_eq_false byO;refine aP ?_ ?_<;>intro h
 ·exfalso;first|(rw[hd]at h;cases h)|cases h
 clear h hd hc;(try simp only[aB]);by_cases hc:w=238
 ·rw[if_pos hc]at hR
  have hd:decide ((w:Int)=238)=true:=decide_eq_true byO;refine aP ?_ ?_<;>intro h
  ·clear h hd
   (try simp only[aB]);subst hR;refine aL ?_;refine bM ?_;exact((hm1.set (.inl rfl)).set (.inr rfl)).inr rfl rfl
  ·exfalso;first|(rw[hd]at h;cases h)|cases h
 rw[if_neg hc]at hR;have hd:decide ((w:Int)=238)=false:=decide_eq_false byO;refine aP ?_ ?_<;>intro h
 ·exfalso;first|(rw[hd]at h;cases h)|cases h
 clear h hd hc;(try simp only[aB]);by_cases hc:w=239
 ·rw[if_pos hc]at hR
  have hd:decide ((w:Int)=239)=true:=decide_eq_true byO;refine aP ?_ ?_<;>intro h
  ·clear h hd
   (try simp only[aB]);subst hR;refine aL ?_;refine bM ?_;exact((hm1.set (.inl rfl)).set (.inr rfl)).inr rfl rfl
  ·exfalso;first|(rw[hd]at h;cases h)|cases h
 rw[if_neg hc]at hR;have hd:decide ((w:Int)=239)=false:=decide_eq_false byO;refine aP ?_ ?_<;>intro h
 ·exfalso;first|(rw[hd]at h;cases h)|cases h
 clear h hd hc;(try simp only[aB]);by_cases hc:w=240
 ·rw[if_pos hc]at hR
  have hd:decide ((w:Int)=240)=true:=decide_eq_true byO;refine aP ?_ ?_<;>intro h
  ·clear h hd
   (try simp only[aB]);subst hR;refine aL ?_;refine bM ?_;exact((hm1.set (.inl rfl)).set (.inr rfl)).inr rfl rfl
  ·exfalso;first|(rw[hd]at h;cases h)|cases h
 rw[if_neg hc]at hR;subst hR;have hd:decide ((w:Int)=240)=false:=decide_eq_false byO;refine aP ?_ ?_<;>intro h
 ·exfalso;first|(rw[hd]at h;cases h)|cases h
 clear h hd hc;refine aL ?_;refine bM ?_;exact(hm1.set (.inr rfl)).inl rfl byO rfl
end
def G5(ws:List Nat)(f m a t:Nat)(u:Bool)(out:List UInt8):Rd:=
 if m=0 then .inr (a,out) else if m=3 then lK ws f a out else if m=4 then mD ws a f 0 out else kO ws (m==2) f a (t,u,out)
def FJ(ws:List Nat)(f g m a t:Nat)(u:Bool)(out:List UInt8):Nat ⊕ List UInt8:=
 match G5 ws f m a t u out with
 | .inl e=>.inl e
 | .inr (a',o)=>rX ws g a' o
def uw(ws:List Nat)(D:Nat ⊕ List UInt8)(a m t:Nat)(u:Bool)(out:List UInt8):Prop:=
 (m<=4/\a<=ws.length/\t<4/\(m=0->t=0/\u=false)/\out.length+2*(ws.length-a)<=16400)/\∃f g,FJ ws f g m a t u out=D/\ws.length-a<f/\ws.length-a<g/\(m=4->8*ws.length+6<=6*f)
def zw(ws:List Nat)(D:Nat ⊕ List UInt8)(a:Nat):Nat ⊕ (Nat×Nat×Nat×Bool×List UInt8×Bool)->Prop
 | .inl e=>D=.inl e
 | .inr (a',m,t,u,o,f)=>a<a'/\if f=true then D=.inr o/\m=0 else uw ws D a' m t u o
section
variable {ws:List Nat}{D:Nat ⊕ List UInt8}{a m t:Nat}{u:Bool}{out:List UInt8}
theorem n6{g:Nat}{o:List UInt8}(h:rX ws g a o=D)(ha:a<=ws.length)(hg:ws.length-a<g)(hB:o.length+2*(ws.length-a)<=16400):uw ws D a 0 0 false o:=
 ⟨⟨byO,ha,byO,fun _=>⟨rfl,rfl⟩,hB⟩,ws.length-a+1,g,h,byO,hg,fun h=>by cases h⟩
theorem ui{g:Nat}{r:Rd}(h:(match r with | .inl e=>.inl e | .inr (a',o)=>rX ws g a' o)=D)(hr:∀a' o,r=.inr (a',o)->a<a'/\a'<=ws.length/\ws.length-a'<g/\o.length+2*(ws.length-a')<=16400):zw ws D a (rdR 0 0 false false r):=by
 cases r with
 | inl e=>exact h.symm
 | inr s=>
  obtain⟨a',o⟩:=s;obtain⟨h1,h2,h3,h4⟩:=hr a' o rfl;exact⟨h1,n6 h h2 h3 h4⟩
theorem Ef(hr:uw ws D a 0 t u out)(ha:a<ws.length):zw ws D a (B5 ws a out):=by
 obtain⟨⟨-,-,-,-,hB⟩,f,g,hD,-,hg,-⟩:=hr;obtain⟨g,rfl⟩:∃q,g=q+1:=⟨g-1,byO⟩;have hD2:(if ws.length<=a then .inr out else if wd ws a=129 then .inr out else match tT ws (wd ws a) (a+1) out with | .inl e=>.inl e | .inr (a',out')=>rX ws g a' out')=D:=hD;clear hD;rw[if_neg byO]at hD2;unfold tT at hD2;unfold B5;generalize wd ws a=w at *;by_cases h1:1<=w/\w<=128
 ·rw[if_neg byO,if_pos h1]at hD2
  rw[if_pos h1];exact⟨byO,n6 hD2 byO byO (by simp;omega)⟩
 rw[if_neg h1]at hD2 ⊢;by_cases h2:w=129
 ·rw[if_pos h2]at hD2 ⊢
  exact⟨byO,hD2.symm,rfl⟩
 rw[if_neg h2]at hD2 ⊢;by_cases h3:130<=w/\w<230
 ·rw[if_pos h3]at hD2 ⊢
  exact⟨byO,n6 hD2 byO byO (by simp;omega)⟩
 rw[if_neg h3]at hD2 ⊢;by_cases h4:w=230
 ·rw[if_neg byO,if_pos h4]at hD2
  rw[if_pos h4];exact⟨byO,⟨byO,byO,byO,fun h=>(by cases h),byO⟩,ws.length+1,g,hD2,byO,byO,fun h=>(by cases h)⟩
 rw[if_neg h4];by_cases h5:w=231
 ·rw[if_neg byO,if_neg h4,if_neg byO,if_pos h5]at hD2
  rw[if_pos h5];refine ui hD2 fun a' o he=>?_;obtain⟨q1,q2,q3⟩:=vA he;exact⟨byO,q2,byO,byO⟩
 rw[if_neg h5];by_cases h6:w=235
 ·rw[if_pos h6]at hD2 ⊢
  refine ui hD2 fun a' o he=>?_;unfold upS at he;split at he
  ·cases he
  split at he
  ·cases he
  cases he;exact⟨byO,byO,byO,by simp;omega⟩
 rw[if_neg h6,if_neg h4]at hD2;rw[if_neg h6];by_cases h7:w=238
 ·rw[if_neg byO,if_neg h5,if_pos h7]at hD2
  rw[if_pos h7];exact⟨byO,⟨byO,byO,byO,fun h=>(by cases h),byO⟩,ws.length+1,g,hD2,byO,byO,fun h=>(by cases h)⟩
 rw[if_neg h7];by_cases h8:w=239
 ·rw[if_pos h8]at hD2 ⊢
  exact⟨byO,⟨byO,byO,byO,fun h=>(by cases h),byO⟩,ws.length+1,g,hD2,byO,byO,fun h=>(by cases h)⟩
 rw[if_neg h8,if_neg h5,if_neg h7]at hD2;rw[if_neg h8];by_cases h9:w=240
 ·rw[if_pos h9]at hD2 ⊢
  exact⟨byO,⟨byO,byO,byO,fun h=>(by cases h),byO⟩,2*ws.length+2,g,hD2,byO,byO,fun _=>byO⟩
 rw[if_neg h9]at hD2 ⊢;exact hD2.symm
theorem Ed(hr:uw ws D a 4 t u out):∃f,8*ws.length+6<=6*f/\zw ws D a (rdR 0 0 false false (mD ws a f 0 out)):=by
 obtain⟨⟨-,-,-,-,hB⟩,f,g,hD,-,hg,h4⟩:=hr;refine⟨f,h4 rfl,ui (g:=g) hD fun a' o he=>?_⟩;obtain⟨q1,q2,q3⟩:=qF _ _ _ he;exact⟨q1,q2,byO,byO⟩
theorem Ee(hr:uw ws D a m t u out)(hm:m=1\/m=2\/m=3)(ha:a<ws.length):zw ws D a (Ek ws a m t u out):=by
 obtain⟨⟨-,-,ht,-,hB⟩,f,g,hD,hf,hg,-⟩:=hr;obtain⟨f,rfl⟩:∃q,f=q+1:=⟨f-1,byO⟩;unfold FJ G5 at hD;rw[if_neg byO]at hD;unfold Ek;by_cases h3:m=3
 ·subst h3
  rw[if_pos rfl]at hD;unfold lK at hD;cases hv:jd ws a with
  | inl e=>
   rw[hv]at hD;exact hD.symm
  | inr s=>
   rw[hv]at hD;cases s with
   | none=>
    obtain⟨q1,q2⟩:=lq hv;exact⟨byO,n6 hD byO byO byO⟩
   | some v=>
    obtain⟨q1,-⟩:=lz hv;simp only at hD ⊢;rw[if_pos trivial];rw[<-QH]at hD;exact⟨byO,⟨byO,byO,ht,fun h=>byO,by rw[as₀,uv];omega⟩,f,g,hD,byO,byO,fun h=>byO⟩
 ·rw[if_neg h3,if_neg byO]at hD
  unfold kO at hD;cases hv:jd ws a with
  | inl e=>
   rw[hv]at hD;exact hD.symm
  | inr s=>
   rw[hv]at hD;cases s with
   | none=>
    obtain⟨q1,q2⟩:=lq hv;exact⟨byO,n6 hD byO byO byO⟩
   | some v=>
    obtain⟨q1,-⟩:=lz hv;simp only at hD ⊢;rw[if_neg h3,Py];cases hw:uq (m==2) (t,u,out) v with
    | inl e=>
     rw[hw]at hD;exact hD.symm
    | inr s=>
     rw[hw]at hD;obtain⟨s1,s2,-,-,hs3⟩:=tN hw;have h5:=wg hw;have h6:=AG hs3;simp only at h5;obtain⟨t',u',o'⟩:=s;simp only at h5 h6;refine⟨byO,⟨byO,byO,h6,fun h=>byO,by simp only;omega⟩,f,g,?_,byO,byO,fun h=>byO⟩;unfold FJ G5;rw[if_neg byO,if_neg h3,if_neg byO];exact hD
theorem HO(hr:uw ws D a m t u out)(ha:ws.length<=a):D=if m=0 then .inr out else .inl 10:=by
 obtain⟨⟨-,-,-,-,hB⟩,f,g,hD,hf,hg,h4⟩:=hr;obtain⟨f,rfl⟩:∃q,f=q+1:=⟨f-1,byO⟩;obtain⟨g,rfl⟩:∃q,g=q+1:=⟨g-1,byO⟩;have ht:jd ws a=.inl 10:=by unfold jd;rw[if_pos ha]
 unfold FJ G5 at hD;subst hD;by_cases h0:m=0
 ·rw[if_pos h0,if_pos h0]
  unfold rX;simp only;rw[if_pos ha]
 rw[if_neg h0,if_neg h0];by_cases h3:m=3
 ·rw[if_pos h3]
  unfold lK;rw[ht]
 rw[if_neg h3];by_cases h5:m=4
 ·rw[if_pos h5]
  unfold mD;rw[if_pos byO]
 rw[if_neg h5];unfold kO;rw[ht]
end
section
variable {lo:Nat}{H:Heap}{v:Value}{l:List Int}
open XKa
theorem Np(hv:SlI H v l)(hl:l.length<=100000)(hlo:lo<=H.length):Ev cp lo 48 [v] H (fun r H'=>Ext H H'/\JS H' r (vS l)):=by
 obtain⟨av,cv,ev⟩:=hv.len;rw[ev]at hv ⊢;clear ev;unfold vS;refine stG rfl rfl ?_;unfold NG;simp only[kB,aB];refine aL ?_;refine dh ?_;refine aA (Rk hv hl) ?_;rintro r H' ⟨rfl,rfl⟩;cases hcw:pE l with
 | false=>
  rw[if_pos rfl];refine aL ?_;refine aP ?_ ?_<;>intro h
  ·clear h
   refine aL ?_;refine bM ?_;exact⟨Ext.refl _,rfl,by decide⟩
  ·cases h
 | true=>
 rw[if_neg (by decide)];obtain⟨hws,hby⟩:=yi hv hcw;have hwl:(l.map Int.toNat).length=l.length:=by simp
 clear hcw hv;refine aL ?_;refine aP ?_ ?_<;>intro h
 ·cases h
 clear h;(try simp only[aB]);by_cases h8:8192<l.length
 ·have hd:decide ((l.length:Int)>8192)=true:=decide_eq_true byO
  rw[if_pos h8];refine aP ?_ ?_<;>intro h
  ·clear h hd
   refine aL ?_;refine bM ?_;exact⟨Ext.refl _,rfl,by decide⟩
  ·exfalso;first|(rw[hd]at h;cases h)|cases h
 rw[if_neg h8];have hd:decide ((l.length:Int)>8192)=false:=decide_eq_false byO;refine aP ?_ ?_<;>intro h
 ·exfalso;first|(rw[hd]at h;cases h)|cases h
 clear h hd;rw[<-hwl]at hl h8 hws ⊢;generalize l.map Int.toNat=ws at *;clear hwl;have hr0:uw ws (FZ ws) 0 0 0 false []:=⟨⟨byO,byO,byO,fun _=>⟨rfl,rfl⟩,by simp;omega⟩,ws.length+1,ws.length+1,rfl,byO,byO,fun h=>(by cases h)⟩;generalize FZ ws=D at *;refine aL ?_;change wpS cp lo _ _ _ (H++[some (snC 0 0 0 false none 0 false)]);have hx0:Ext H (H++[some (snC 0 0 0 false none 0 false)]):=Ext.app _ _;have g0:Heap.get (H++[some (snC 0 0 0 false none 0 false)]) H.length=some (snC 0 0 0 false none 0 false):=aK;generalize H++[some (snC 0 0 0 false none 0 false)]=H0 at *;refine eo (fun S' K=>(∃e a m t u out ad n f,Ext H K/\K.get H.length=some (snC a m t u ad n f)/\(e=0/\((m=0/\D=.inr out/\∃b,Own H.length 1 K (.slice ad n n) b (uU out))\/(m≠0/\D=.inl 10))\/e≠0/\D=.inl e)/\∃(z:Nat->Value),S'=[.slice av ws.length cv,z 1,z 2,.pointer (some ⟨H.length,0,none⟩),aD e,z 5,z 6,z 7,z 8,z 9,z 10,z 11,z 12,z 13])) ?_ ?_
 ·refine aY (fun i S K=>(∃e a m t u out ad n f,Ext H K/\K.get H.length=some (snC a m t u ad n f)/\((e=0/\(∃b,b≠H.length/\Own H.length 1 K (.slice ad n n) b (uU out))/\((f=false/\uw ws D a m t u out/\i=ws.length-a+1)\/(f=true/\D=.inr out/\m=0)))\/(e≠0/\D=.inl e))/\∃(z:Nat->Value),S=[.slice av ws.length cv,z 1,z 2,.pointer (some ⟨H.length,0,none⟩),aD e,z 5,z 6,z 7,z 8,z 9,z 10,z 11,z 12,z 13])) (ws.length+1) ?_ ?_
  ·exact⟨0,0,0,0,false,[],none,0,false,hx0,g0,.inl ⟨rfl,⟨H.length+1,byO,Own.nil byO⟩,.inl ⟨rfl,hr0,byO⟩⟩,aR rfl⟩
  clear hr0 hx0 g0;rintro i S K ⟨e,a,m,t,u,out,ad,n,f,hx,gs,hcs,z,rfl⟩;have hlK:=hx.1;have hsl:=Heap.get_lt gs;rcases hcs with ⟨rfl,⟨b,hb,ho⟩,⟨rfl,hr,hi⟩|⟨rfl,hD,rfl⟩⟩|⟨he,hD⟩;rotate_left
  ·(try simp only[aB])
   refine aP ?_ ?_<;>intro h
   ·simp at h
   clear h;(try simp only[aB]);exact⟨0,a,0,t,u,out,ad,n,true,hx,gs,.inl ⟨rfl,.inl ⟨rfl,hD,b,ho⟩⟩,aR rfl⟩
  ·have hd:decide ((e:Int)=0)=false:=decide_eq_false byO
   (try simp only[aB]);refine aP ?_ ?_<;>intro h
   ·exfalso;first|(simp at h;done)|(simp at h;omega)
   clear h;(try simp only[aB]);exact⟨e,a,m,t,u,out,ad,n,f,hx,gs,.inr ⟨he,hD⟩,aR rfl⟩
  replace hi:i<=ws.length-a+1/\ws.length-a+1<=i:=byO;by_cases ha:ws.length<=a
  ·have hD:=HO hr ha
   have hd:decide ((a:Int)<(ws.length:Nat))=false:=decide_eq_false byO;(try simp only[aB]);refine aP ?_ ?_<;>intro h
   ·exfalso;first|(rw[hd]at h;cases h)|cases h
   clear h hd;(try simp only[aB]);refine⟨0,a,m,t,u,out,ad,n,false,hx,gs,.inl ⟨rfl,?_⟩,aR rfl⟩;by_cases h0:m=0
   ·rw[if_pos h0]at hD
    exact .inl ⟨h0,hD,b,ho⟩
   ·rw[if_neg h0]at hD
    exact .inr ⟨h0,hD⟩
  have⟨hm4,hal,ht4,h00,hB⟩:=hr.1;have hd:decide ((a:Int)<(ws.length:Nat))=true:=decide_eq_true byO;(try simp only[aB]);refine aP ?_ ?_<;>intro h;rotate_left
  ·exfalso;first|(rw[hd]at h;cases h)|(simp at h;done)
  clear h hd;refine aL ?_;by_cases h0:m=0
  ·subst h0
   obtain⟨rfl,rfl⟩:=h00 rfl;have hcl:=SE (lo:=lo) (a:=a) ho hx hws hlo hB byO byO hby;refine aP ?_ ?_<;>intro h
   ·clear h
    (try simp only[aB]);refine dh ?_;refine aA hcl ?_;intro r K' hq;clear hcl;have hst:=Ef hr byO;generalize B5 ws a out=X at *;cases X with
    | inl e=>
     obtain⟨⟨a',m',t2,u2,ad',n',f',rfl⟩,he,hk⟩:=hq;have gs5:=hk.get gs (fun e=>hb e.symm);have hx5:=hk.ext hx ho.1;have hl5:=hx5.1;have hs5:=Heap.get_lt gs5;have hst2:D=.inl e:=hst;replace hst2:False\/_:=.inr hst2;clear hst gs hk;refine aL ?_;simp only[ak];exact⟨0,byO,e,a',m',t2,u2,[],ad',n',f',keepSet.ext hx5 (Nat.le_refl _),aF hs5,.inr ⟨he,hst2.resolve_left id⟩,aR rfl⟩
    | inr s=>
     obtain⟨a',m',t2,u2,o2,f'⟩:=s;obtain⟨ad',n',b',rfl,ho',hb',hk⟩:=hq;have gs5:=hk.get gs (fun e=>hb e.symm);have hx5:=hk.ext hx ho.1;have hl5:=hx5.1;have hs5:=Heap.get_lt gs5;have hbn:b'≠H.length:=byO;obtain⟨haa,hst2⟩:=hst;replace hst2:False\/_:=.inr hst2;clear gs hk hb';refine aL ?_;simp only[ak];refine⟨ws.length-a'+1,byO,0,a',m',t2,u2,o2,ad',n',f',keepSet.ext hx5 (Nat.le_refl _),aF hs5,.inl ⟨rfl,⟨b',hbn,ho'.keep keepSet hbn⟩,?_⟩,aR rfl⟩;cases f' with
     | false=>exact .inl ⟨rfl,by simpa using hst2.resolve_left id,rfl⟩
     | true=>exact .inr ⟨rfl,by simpa using hst2.resolve_left id⟩
   ·simp at h
  have hd:decide ((m:Int)=0)=false:=decide_eq_false byO;refine aP ?_ ?_<;>intro h
  ·exfalso;first|(rw[hd]at h;cases h)|cases h
  clear h hd;(try simp only[aB]);by_cases h4:m=4
  ·subst h4
   obtain⟨g,hg,hst⟩:=Ed hr;have hcl:=Rn (lo:=lo) (a:=a) (m:=4) (t:=t) (u:=u) (f:=false) ho hx hws hlo hB byO byO hby hg;refine aP ?_ ?_<;>intro h
   ·clear h
    (try simp only[aB]);refine dh ?_;refine aA hcl ?_;intro r K' hq;clear hcl;clear hr;generalize rdR 0 0 false false (mD ws a g 0 out)=X at *;cases X with
    | inl e=>
     obtain⟨⟨a',m',t2,u2,ad',n',f',rfl⟩,he,hk⟩:=hq;have gs5:=hk.get gs (fun e=>hb e.symm);have hx5:=hk.ext hx ho.1;have hl5:=hx5.1;have hs5:=Heap.get_lt gs5;have hst2:D=.inl e:=hst;replace hst2:False\/_:=.inr hst2;clear hst gs hk;refine aL ?_;simp only[ak];exact⟨0,byO,e,a',m',t2,u2,[],ad',n',f',keepSet.ext hx5 (Nat.le_refl _),aF hs5,.inr ⟨he,hst2.resolve_left id⟩,aR rfl⟩
    | inr s=>
     obtain⟨a',m',t2,u2,o2,f'⟩:=s;obtain⟨ad',n',b',rfl,ho',hb',hk⟩:=hq;have gs5:=hk.get gs (fun e=>hb e.symm);have hx5:=hk.ext hx ho.1;have hl5:=hx5.1;have hs5:=Heap.get_lt gs5;have hbn:b'≠H.length:=byO;obtain⟨haa,hst2⟩:=hst;replace hst2:False\/_:=.inr hst2;clear gs hk hb';refine aL ?_;simp only[ak];refine⟨ws.length-a'+1,byO,0,a',m',t2,u2,o2,ad',n',f',keepSet.ext hx5 (Nat.le_refl _),aF hs5,.inl ⟨rfl,⟨b',hbn,ho'.keep keepSet hbn⟩,?_⟩,aR rfl⟩;cases f' with
     | false=>exact .inl ⟨rfl,by simpa using hst2.resolve_left id,rfl⟩
     | true=>exact .inr ⟨rfl,by simpa using hst2.resolve_left id⟩
   ·simp at h
  have hd:decide ((m:Int)=4)=false:=decide_eq_false byO;refine aP ?_ ?_<;>intro h
  ·exfalso;first|(rw[hd]at h;cases h)|cases h
  clear h hd;have hcl:=SD (lo:=lo) (a:=a) (m:=m) (t:=t) (u:=u) ho hx hws hlo byO byO byO hby byO ht4;(try simp only[aB]);refine dh ?_;refine aA hcl ?_;intro r K' hq;clear hcl;have hst:=Ee hr byO byO;generalize Ek ws a m t u out=X at *;cases X with
  | inl e=>
   obtain⟨⟨a',m',t2,u2,ad',n',f',rfl⟩,he,hk⟩:=hq;have gs5:=hk.get gs (fun e=>hb e.symm);have hx5:=hk.ext hx ho.1;have hl5:=hx5.1;have hs5:=Heap.get_lt gs5;have hst2:D=.inl e:=hst;replace hst2:False\/_:=.inr hst2;clear hst gs hk;refine aL ?_;simp only[ak];exact⟨0,byO,e,a',m',t2,u2,[],ad',n',f',keepSet.ext hx5 (Nat.le_refl _),aF hs5,.inr ⟨he,hst2.resolve_left id⟩,aR rfl⟩
  | inr s=>
   obtain⟨a',m',t2,u2,o2,f'⟩:=s;obtain⟨ad',n',b',rfl,ho',hb',hk⟩:=hq;have gs5:=hk.get gs (fun e=>hb e.symm);have hx5:=hk.ext hx ho.1;have hl5:=hx5.1;have hs5:=Heap.get_lt gs5;have hbn:b'≠H.length:=byO;obtain⟨haa,hst2⟩:=hst;replace hst2:False\/_:=.inr hst2;clear gs hk hb';refine aL ?_;simp only[ak];refine⟨ws.length-a'+1,byO,0,a',m',t2,u2,o2,ad',n',f',keepSet.ext hx5 (Nat.le_refl _),aF hs5,.inl ⟨rfl,⟨b',hbn,ho'.keep keepSet hbn⟩,?_⟩,aR rfl⟩;cases f' with
   | false=>exact .inl ⟨rfl,by simpa using hst2.resolve_left id,rfl⟩
   | true=>exact .inr ⟨rfl,by simpa using hst2.resolve_left id⟩
 clear hr0 hx0 g0;rintro S' K ⟨e,a,m,t,u,out,ad,n,f,hx,gs,hcs,z,rfl⟩;have hlK:=hx.1;have hsl:=Heap.get_lt gs;rcases hcs with ⟨rfl,⟨rfl,hD,b,ho⟩|⟨hm,hD⟩⟩|⟨he,hD⟩
 ·subst hD
  (try simp only[aB]);refine aP ?_ ?_<;>intro h
  ·simp at h
  clear h;(try simp only[aB]);refine aP ?_ ?_<;>intro h
  ·simp at h
  clear h;refine aL ?_;refine bM ?_;exact⟨hx,_,rfl,Sl.ofOwn ho⟩
 ·subst hD
  have hd:decide ((m:Int)≠0)=true:=decide_eq_true byO;(try simp only[aB]);refine aP ?_ ?_<;>intro h
  ·simp at h
  clear h;(try simp only[aB]);refine aP ?_ ?_<;>intro h
  ·clear h
   refine aL ?_;refine bM ?_;exact⟨hx,rfl,by decide⟩
  ·exfalso;first|(rw[hd]at h;cases h)|cases h
 ·subst hD
  have hd:decide ((e:Int)≠0)=true:=decide_eq_true byO;(try simp only[aB]);refine aP ?_ ?_<;>intro h
  ·clear h
   refine aL ?_;refine bM ?_;exact⟨hx,rfl,he⟩
  ·exfalso;first|(rw[hd]at h;cases h)|cases h
end
end Go.Proofs.YtmnlgdpdgjbfgaaGreat
