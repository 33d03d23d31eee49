/- Lemmas. -/
import Derived.Test.YtmnlgdpdgjbfgaaGreatF26
set_option linter.all false
namespace Go.Proofs.YtmnlgdpdgjbfgaaGreat
open Go.Abs
variable{H:Heap}{v:Value}{p:List UInt8}
set_option maxRecDepth 20000
structure Mv where
 v:Nat
 a:Nat
 s:Nat
 u:Bool
def mvC(m:Mv):List Value:=[aB m.v,aB m.a,aB m.s,.bool m.u]
theorem iW(o:Mv):(mvC o).length=4:=rfl
theorem vn(o:Mv):oneCells (mvC o)=true:=rfl
abbrev by'(p:List UInt8)(i:Nat):Nat:=(p.getD i 0).toNat
theorem qA(p:List UInt8)(i:Nat):by' p i<256:=(p.getD i 0).toNat_lt
def mv3(a:Nat)(u:Bool)(k:Nat):List Mv:=(List.range k).map fun i=>⟨i,a,i+1,u⟩
theorem GM(a:Nat)(u:Bool)(k:Nat):mv3 a u (k+1)=mv3 a u k++[⟨k,a,k+1,u⟩]:=by
 grind[mv3,List.range_succ]
def mvA(a s:Nat)(u:Bool):List Mv:=if s=0 then mv3 a u 3 else[]
def mvB(p:List UInt8)(a s:Nat)(u lower:Bool):List Mv:=if a<p.length/\(c9 lower (by' p a%128)).1=s/\u=decide (128<=by' p a) then[⟨(c9 lower (by' p a%128)).2,a+1,0,false⟩] else[]
def mvD(a s:Nat)(u:Bool):List Mv:=if s=2/\u=false then[⟨30,a,0,true⟩] else[]
def jH(p:List UInt8)(a s:Nat)(u lower:Bool):List Mv:=mvA a s u++mvB p a s u lower++mvD a s u
theorem jI(p:List UInt8)(a s:Nat)(u lower:Bool):(jH p a s u lower).length<=5:=by
 grind[jH,mvA,mvB,mvD,mv3]
theorem p6(b:Bool)(n:Nat)(h:n<128):(c9 b n).1<=3/\(c9 b n).2<=39:=by
 unfold c9
 grind
def Mv.ok(p:List UInt8)(a:Nat)(m:Mv):Prop:=m.v<=39/\a<=m.a/\m.a<=p.length/\m.s<=3
theorem mL{a s:Nat}{u lower:Bool}(ha:a<=p.length):∀m ∈ jH p a s u lower,m.ok p a:=by
 intro m hm;unfold jH mvA mvB mvD mv3 at hm;rw[be₀,be₀]at hm;rcases hm with (hm|hm)|hm
 ·split at hm
  ·obtain⟨i,hi,rfl⟩:=List.mem_map.1 hm
   exact⟨by grind,Nat.le_refl _,ha,by grind⟩
  ·cases hm
 ·split at hm
  ·obtain rfl:=List.mem_singleton.1 hm
   have:=p6 lower (by' p a%128) byO;exact⟨this.2,by simp_all,by grind,Nat.zero_le _⟩
  ·cases hm
 ·split at hm
  ·obtain rfl:=List.mem_singleton.1 hm
   exact⟨by simp_all,Nat.le_refl _,ha,Nat.zero_le _⟩
  ·cases hm
def eu(at':Nat):Opt:=⟨254,0,0,1,0,at',0⟩
def iM(first:Nat)(w:Mv):Nat:=if w.u then first+w.s+4 else first+w.s
def tF(first:Nat)(u v:Mv)(L:List Mv):List Opt:=L.map fun w=>jh u.v v.v w.v w.a (iM first w)
def tX(p:List UInt8)(first:Nat)(lower:Bool)(u:Mv)(L:List Mv):List Opt:=L.flatMap fun v=>tF first u v (jH p v.a v.s v.u lower)
def wq(p:List UInt8)(first:Nat)(lower:Bool)(L:List Mv):List Opt:=L.flatMap fun u=>tX p first lower u (jH p u.a u.s u.u lower)
def kJ(p:List UInt8)(at' st first:Nat)(lower:Bool):List Opt:=eu at'::wq p first lower (jH p at' (st%4) (decide (4<=st)) lower)
def tL(p:List UInt8)(at':Nat):List Opt:=
 eu at'::if at'+3<=p.length/\dL (by' p at')≠0/\dL (by' p (at'+1))≠0/\dL (by' p (at'+2))≠0 then[jh (dL (by' p at')-1) (dL (by' p (at'+1))-1) (dL (by' p (at'+2))-1) (at'+3) 17] else[]
def jA(p:List UInt8)(at':Nat):Nat->Nat->Nat->List Opt
 | 0,n,g=>[fu g 4 (at'+n) 18]
 | k+1,n,g=>fu (64*g+31) (n+1) (at'+n) 0::if at'+n<p.length/\32<=by' p (at'+n)/\by' p (at'+n)<=94 then jA p at' k (n+1) (64*g+by' p (at'+n)%64) else[]
def pJ(p:List UInt8)(at':Nat):List Opt:=jA p at' 4 0 0
def dC(at' n:Nat):Opt:=if n<250 then⟨231,n,0,2,n,at'+n,0⟩ else⟨231,249+n/250,n%250,3,n,at'+n,0⟩
def cC:Opt:=⟨0,0,0,0,0,0,0⟩
def iA(cs:List Nat)(at':Nat):Nat->Opt
 | 0=>cC
 | n+1=>if n=0 then dC at' 1 else if bP cs (dC at' (n+1))<bP cs (iA cs at' n) then dC at' (n+1) else iA cs at' n
def vH(p:List UInt8)(cs:List Nat)(at':Nat):Opt:=iA cs at' (min (p.length-at') 1749)
def fk(at':Nat):List Opt:=[⟨230,0,0,1,0,at',1⟩,⟨239,0,0,1,0,at',9⟩,⟨238,0,0,1,0,at',17⟩,⟨240,0,0,1,0,at',18⟩]
def eL(c at':Nat):Opt:=if c<128 then⟨c+1,0,0,1,0,at'+1,0⟩ else⟨235,c-127,0,2,0,at'+1,0⟩
def kE(p:List UInt8)(at':Nat):List Opt:=if at'+2<=p.length/\jr (by' p at')=true/\jr (by' p (at'+1))=true then[⟨130+(10*(by' p at'-48)+by' p (at'+1)-48),0,0,1,0,at'+2,0⟩] else[]
def qy(p:List UInt8)(cs:List Nat)(at':Nat):List Opt:=fk at'++if at'<p.length then[eL (by' p at') at']++kE p at'++[vH p cs at'] else[]
def dQ(p:List UInt8)(cs:List Nat)(at' st:Nat):List Opt:=
 if st=0 then qy p cs at' else if st<9 then kJ p at' (st-1) 1 false else if st<17 then kJ p at' (st-9) 9 true else if st=17 then tL p at' else pJ p at'
structure Opt.ok (n at':Nat)(o:Opt):Prop where
 sz:1<=o.sz/\o.sz<=3
 run:o.run<=1749
 nx:at'<=o.nx/\o.nx<=n
 md:o.md<19
 h:o.h0<=255/\o.h1<=255/\o.h2<=255
theorem Bb{n at':Nat}(h:at'<=n):(eu at').ok n at':=⟨⟨Nat.le_refl 1,by simp[eu]⟩,by simp[eu],⟨Nat.le_refl _,h⟩,by simp[eu],by simp[eu]⟩
theorem CU{n at' u v w a m:Nat}(hu:u<=39)(hv:v<=39)(hw:w<=39)(h:at'<=a/\a<=n)(hm:m<19):(jh u v w a m).ok n at':=by
 refine⟨⟨by simp[jh],by simp[jh]⟩,by simp[jh],h,hm,?_⟩
 grind[jh]
theorem yO{first:Nat}{w:Mv}(h:w.s<=3):iM first w<first+8:=by
 grind[iM]
theorem zB{at' st first:Nat}{lower:Bool}(ha:at'<=p.length)(hf:first<=9):∀o ∈ kJ p at' st first lower,o.ok p.length at':=by
 intro o ho;rcases List.mem_cons.1 ho with rfl|ho
 ·grind[Bb]
 ·obtain⟨u,hu,ho⟩:=List.mem_flatMap.1 ho
  obtain⟨v,hv,ho⟩:=List.mem_flatMap.1 ho;obtain⟨w,hw,rfl⟩:=List.mem_map.1 ho;obtain⟨hu1,hu2,hu3,hu4⟩:=mL ha u hu;obtain⟨hv1,hv2,hv3,hv4⟩:=mL hu3 v hv;obtain⟨hw1,hw2,hw3,hw4⟩:=mL hv3 w hw
  grind[yO,CU]
theorem j7(n:Nat):dL n<=40:=by
 grind[dL]
theorem KX{at':Nat}(ha:at'<=p.length):∀o ∈ tL p at',o.ok p.length at':=by
 grind[tL,Bb,j7,CU]
theorem Az{N at' g n a m:Nat}(hn:1<=n/\n<=4)(hg:g<2^(6*n))(h:at'<=a/\a<=N)(hm:m<19):(fu g n a m).ok N at':=by
 have hG:g*2^(6*(4-n))<16777216:=by
  have:(16777216:Nat)=2^(6*n)*2^(6*(4-n)):=by rw[<-Nat.pow_add,show 6*n+6*(4-n)=24 by omega]
  simp_all[Nat.pow_pos]
 unfold fu;refine⟨⟨?_,?_⟩,Nat.zero_le _,h,hm,⟨?_,?_,?_⟩⟩<;>simp only<;>omega
theorem Sb(n:Nat):2^(6*(n+1))=64*2^(6*n):=by grind
theorem BK{p:List UInt8}{at':Nat}:∀(k n g:Nat),n+k=4->g<2^(6*n)->at'+n<=p.length->∀o ∈ jA p at' k n g,o.ok p.length at'
 | 0,n,g,hn,hg,ha,o,ho=>by
  grind[jA,Az]
 | k+1,n,g,hn,hg,ha,o,ho=>by
  have h6:=Sb n;rcases List.mem_cons.1 ho with rfl|ho
  ·grind[Az]
  ·split at ho
   ·exact BK k (n+1) _ byO byO byO o ho
   ·cases ho
theorem IY{at':Nat}(ha:at'<=p.length):∀o ∈ pJ p at',o.ok p.length at':=BK 4 0 0 rfl (by decide) ha
theorem vG{N at' n:Nat}(h1:1<=n)(h2:n<=1749)(h:at'+n<=N):(dC at' n).ok N at':=by
 unfold dC;split<;>refine⟨⟨?_,?_⟩,?_,⟨?_,?_⟩,?_,⟨?_,?_,?_⟩⟩<;>simp only<;>omega
theorem nr{cs:List Nat}{at':Nat}:∀n,1<=n->∃k,1<=k/\k<=n/\iA cs at' n=dC at' k
 | 1,_=>⟨1,Nat.le_refl _,Nat.le_refl _,by simp[iA]⟩
 | n+2,_=>by
  obtain⟨k,h1,h2,h3⟩:=nr (cs:=cs) (at':=at') (n+1) byO
  grind[iA]
theorem Ax{cs:List Nat}{N at' n:Nat}(h1:1<=n)(h2:n<=1749)(h:at'+n<=N):(iA cs at' n).ok N at':=by
 obtain⟨k,h3,h4,e⟩:=nr (cs:=cs) (at':=at') n h1
 grind[vG]
theorem Bd{N at':Nat}(h:at'<=N):∀o ∈ fk at',o.ok N at':=by
 intro o ho;simp only[fk,List.mem_cons,List.not_mem_nil,or_false]at ho;rcases ho with rfl|rfl|rfl|rfl<;>exact⟨⟨by simp,by simp⟩,by simp,⟨Nat.le_refl _,h⟩,by simp,by simp⟩
theorem EX{N c at':Nat}(hc:c<256)(h:at'<N):(eL c at').ok N at':=by
 unfold eL;split<;>refine⟨⟨?_,?_⟩,?_,⟨?_,?_⟩,?_,⟨?_,?_,?_⟩⟩<;>simp only<;>omega
theorem dF{n:Nat}:jr n=true↔48<=n/\n<=57:=by simp[jr]
theorem G5{at':Nat}:∀o ∈ kE p at',o.ok p.length at':=by
 intro o ho;unfold kE at ho;split at ho
 ·rename_i h
  obtain rfl:=List.mem_singleton.1 ho;obtain⟨h1,h2,h3⟩:=h;have h2:=dF.1 h2;have h3:=dF.1 h3;refine⟨⟨?_,?_⟩,?_,⟨?_,?_⟩,?_,⟨?_,?_,?_⟩⟩<;>simp only<;>omega
 ·cases ho
theorem Hy{cs:List Nat}{at':Nat}(ha:at'<=p.length):∀o ∈ qy p cs at',o.ok p.length at':=by
 intro o ho;rcases List.mem_append.1 ho with ho|ho
 ·grind[Bd]
 ·split at ho
  ·simp only[be₀,List.mem_singleton]at ho
   rcases ho with (rfl|ho)|rfl
   ·grind[EX,qA]
   ·grind[G5]
   ·exact Ax byO byO byO
  ·cases ho
theorem iY{cs:List Nat}{at' st:Nat}(ha:at'<=p.length):∀o ∈ dQ p cs at' st,o.ok p.length at':=by
 intro o ho;unfold dQ at ho;split at ho
 ·grind[Hy]
 ·split at ho
  ·exact zB ha byO o ho
  ·split at ho
   ·exact zB ha byO o ho
   grind[KX,IY]
theorem kZ{α β:Type}(f:α->List β):∀(l:List α) (k:Nat) (h:k<l.length),(l.take (k+1)).flatMap f=(l.take k).flatMap f++f l[k]
 | x::l,0,h=>by simp
 | x::l,k+1,h=>by
  simp ;rw[kZ f l k (by simpa using h)]
theorem map_take{α β:Type}(f:α->β)(l:List α)(k:Nat)(h:k<l.length):(l.take (k+1)).map f=(l.take k).map f++[f l[k]]:=by
 grind[List.take_succ_eq_append_getElem]
theorem gN{l:List UInt8}{k:Nat}(h:SlU H v l)(hk:k<l.length):∃b o xs,aJ (.iAddr 1) [v,.int .i64 (k:Nat)] H=some (.pointer (some ⟨b,o,none⟩))/\H.get b=some xs/\xs[o]?=some (FC (l.getD k 0)):=by
 obtain⟨b,o,sp,cap,xs,rfl,h2,h3,h4⟩:=h.els 0 byO;refine⟨b,o+k,xs,?_,h2,h3 k hk⟩;rw[lV byO byO];simp
theorem Mo{a b:Nat}(ha:a<256)(hb:b<256):IntKind.u8.wrap ((BitVec.ofInt IntKind.u8.bits (a:Int) &&& BitVec.ofInt IntKind.u8.bits (b:Int)).toNat:Int)=((a &&& b:Nat):Int):=by
 have e:(BitVec.ofInt IntKind.u8.bits (a:Int) &&& BitVec.ofInt IntKind.u8.bits (b:Int)).toNat=a &&& b:=by
  show(BitVec.ofInt 8 (a:Int) &&& BitVec.ofInt 8 (b:Int)).toNat=a &&& b;rw[show BitVec.ofInt 8 (a:Int)=BitVec.ofNat 8 a from BitVec.ofInt_natCast 8 a,show BitVec.ofInt 8 (b:Int)=BitVec.ofNat 8 b from BitVec.ofInt_natCast 8 b,BitVec.toNat_and,BitVec.toNat_ofNat,BitVec.toNat_ofNat,Nat.mod_eq_of_lt byO,Nat.mod_eq_of_lt byO]
 rw[e];have:a &&& b<=a:=Nat.and_le_left;exact CZ byO byO
section
variable {lo:Nat}{H:Heap}{sb cb:Nat}{v:Value}{p:List UInt8}{cs:List Nat}
open XYe
theorem OZ{a s:Nat}{u lower:Bool}(hs:SrH H sb cb v p cs)(ha:a<=p.length)(hs3:s<=3)(hlo:lo<=H.length):Ev cp lo 207 [ptr sb,.agg #[aB a,aB s,.bool u],.bool lower] H (fun r H'=>Ext H H'/\∃b,H.length<=b/\OwnG lo 4 H' r b (cat mvC (jH p a s u lower))):=by
 have hi:=hs.hi;refine stG rfl rfl ?_;unfold Li;simp only[kB,aD];refine aA ?_;have hxb:Ext H (H++[some [aB a,aB s,.bool u]]):=Ext.app _ _;have hgb:(H++[some [aB a,aB s,.bool u]]).get H.length=some [aB a,aB s,.bool u]:=aF;generalize H++[some [aB a,aB s,.bool u]]=Hb at hxb hgb;have hlb:=hxb.1;refine ba (fun S' H'=>Ext Hb H'/\∃w b,Hb.length<=b/\OwnG lo 4 H' w b (cat mvC (mvA a s u))/\∃(z:Nat->Value),S'=[ptr sb,z 1,.bool lower,ptr H.length,z 4,w,z 6,z 7,z 8,z 9,z 10,z 11,z 12,z 13,z 14,z 15,z 16,z 17,z 18,z 19,z 20]) ?_ ?_
 ·by_cases h0:s=0
  ·have hA:mvA a s u=mv3 a u 3:=by unfold mvA;rw[if_pos h0]
   rw[hA];clear hA;have hd:decide (((s:Nat):Int)=0)=true:=decide_eq_true byO;replace h0:s<=0:=byO;refine bL ?_;clear hd;refine aA ?_;refine aS (fun k S H'=>Ext Hb H'/\∃w b,Hb.length<=b/\OwnG lo 4 H' w b (cat mvC (mv3 a u k))/\∃(z:Nat->Value),S=[ptr sb,z 1,.bool lower,ptr H.length,z 4,w,z 6,z 7,z 8,z 9,.int .i64 (k:Nat),z 11,z 12,z 13,z 14,z 15,z 16,z 17,z 18,z 19,z 20]) 3 ⟨Ext.refl _,_,Hb.length,Nat.le_refl _,OwnG.nil byO,aH rfl⟩ ?_ ?_ ?_
   ·rintro k S H' hk ⟨hx,w,b,hb,ho,z,rfl⟩
    exact⟨decide ((k:Int)<3),by simp(disch:=try exact dO)only[evB,xtr,Nat.reduceAdd,Nat.reduceBEq,Int.reduceToNat, *],by simp;omega⟩
   ·rintro k S H' hk ⟨hx,w,b,hb,ho,z,rfl⟩
    have hg:=hx.get hgb;have hl1:=hx.1;refine aA ?_;refine aT ?_;have hxa:Ext H' (H'++[some (mvC ⟨k,a,k+1,u⟩)]):=Ext.app _ _;refine Mp (enc:=mvC) (r:=⟨k,a,k+1,u⟩) byO byO iW vn (ho.mono hxa) (hx.trans hxa) hb byO (by simp[mv3];omega) aF ?_;intro v' b' H2 ho2 hx2 hb2 hl2;rw[<-GM]at ho2;refine aA ?_;exact⟨hx2,_,_,hb2,ho2,aH ncM⟩
   ·rintro S H' ⟨hx,w,b,hb,ho,z,rfl⟩
    (try simp only[aD]);exact⟨hx,_,_,hb,ho,aH rfl⟩
  ·have hA:mvA a s u=[]:=by unfold mvA;rw[if_neg h0]
   rw[hA];clear hA;have hd:decide (((s:Nat):Int)=0)=false:=decide_eq_false byO;refine an ?_
   ·(try simp only[aD])
    exact⟨Ext.refl _,_,Hb.length,Nat.le_refl _,OwnG.nil byO,aH rfl⟩
 ·rintro S' H1 ⟨hx1,w,b,hb,ho,z,rfl⟩
  have hg1:=hx1.get hgb;have hs1:=hs.ext (hxb.trans hx1);have hgs:=hs1.g;have hl1:=hx1.1;obtain⟨ad,c,ev⟩:=hs.pl.len;rw[ev]at hgs;(try simp only[aD]);refine ba (fun S' H'=>Ext Hb H'/\∃w b,Hb.length<=b/\OwnG lo 4 H' w b (cat mvC (mvA a s u++mvB p a s u lower))/\∃(z:Nat->Value),S'=[ptr sb,z 1,.bool lower,ptr H.length,z 4,w,z 6,z 7,z 8,z 9,z 10,z 11,z 12,z 13,z 14,z 15,z 16,z 17,z 18,z 19,z 20]) ?_ ?_
  ·by_cases hap:a<p.length
   ·obtain⟨bb,oo,xs,hia,hgx,hxx⟩:=gN hs1.pl hap
    rw[ev]at hia;clear ev;have hd:decide (((a:Nat):Int)<(p.length:Nat))=true:=decide_eq_true byO;refine bL ?_;clear hd;have hby:=(p.getD a 0).toNat_lt;have hand:=Mo (a:=(p.getD a 0).toNat) (b:=127) hby byO;rw[show(p.getD a 0).toNat &&& 127=(p.getD a 0).toNat%128 from Nat.and_two_pow_sub_one_eq_mod _ 7]at hand;have hB:mvB p a s u lower=if (c9 lower (by' p a%128)).1=s/\u=decide (128<=by' p a) then[⟨(c9 lower (by' p a%128)).2,a+1,0,false⟩] else[]:=by
     unfold mvB;simp only[hap,true_and]
    rw[hB];clear hB;unfold by';generalize p.getD a 0=d at hxx hby hand;replace hxx:xs[oo]?=some (.int .u8 (d.toNat:Nat)):=hxx;generalize d.toNat=q at hxx hby hand;simp only[Int.cast_ofNat_Int]at hand;refine aA ?_;refine aT ?_;refine aC (PE (lo:=lo) (b:=lower) (k:=q%128) byO byO) ?_;rintro r H2 ⟨rfl,hx2⟩;have hg2:=hx2.get hg1;have hle:=p6 lower (q%128) byO;generalize (c9 lower (q%128)).1=ss at hle;generalize (c9 lower (q%128)).2=vv at hle;have hl2:=hx2.1;have e8:decide ((q:Int)>=128)=decide (128<=q):=by
     by_cases h:128<=q
     ·rw[decide_eq_true h,decide_eq_true byO]
     ·rw[decide_eq_false h,decide_eq_false byO]
    generalize decide (128<=q)=big at e8;refine aA ?_;by_cases hc:ss=s/\u=big
    ·obtain⟨rfl,rfl⟩:=hc
     simp only[and_self,if_true];refine bL ?_;refine aA ?_;refine aT ?_;have hxa:Ext H2 (H2++[some (mvC ⟨vv,a+1,0,false⟩)]):=Ext.app _ _;refine Mp (enc:=mvC) (r:=⟨vv,a+1,0,false⟩) byO byO iW vn ((ho.mono hx2).mono hxa) ((hx1.trans hx2).trans hxa) hb byO (by unfold mvA mv3;split<;>simp) aF ?_;intro v' b' H3 ho3 hx3 hb3 hl3;refine aA ?_;exact⟨hx3,_,_,hb3,ho3,aH rfl⟩
    ·rw[if_neg hc]
     have hcc:(decide ((ss:Int)=(s:Nat))&&(u==big))=false:=by
      by_cases h1:ss=s
      ·have:¬ u=big:=fun h2=>hc ⟨h1,h2⟩
       cases u<;>cases big<;>simp_all
      ·rw[decide_eq_false byO];rfl
     refine aP ?_ ?_<;>intro h
     ·exfalso
      have e:∀x:Bool,(x != false)=x:=by decide
      rw[e,hcc]at h;cases h
     ·(try simp only[aD])
      exact⟨hx1.trans hx2,_,_,hb,by rw[List.append_nil];exact ho.mono hx2,aH rfl⟩
   ·have hB:mvB p a s u lower=[]:=by unfold mvB;rw[if_neg (fun h=>hap h.1)]
    have hd:decide (((a:Nat):Int)<(p.length:Nat))=false:=decide_eq_false byO;rw[hB];clear hB ev;refine an ?_
    ·(try simp only[aD])
     exact⟨hx1,_,_,hb,by rw[List.append_nil];exact ho,aH rfl⟩
  ·rintro S' H2 ⟨hx2,w,b,hb,ho,z,rfl⟩
   have hg2:=hx2.get hgb;have hl2:=hx2.1;(try simp only[aD]);refine ba (fun S' H'=>Ext Hb H'/\∃w b,Hb.length<=b/\OwnG lo 4 H' w b (cat mvC (jH p a s u lower))/\∃(z:Nat->Value),S'=[ptr sb,z 1,.bool lower,ptr H.length,z 4,w,z 6,z 7,z 8,z 9,z 10,z 11,z 12,z 13,z 14,z 15,z 16,z 17,z 18,z 19,z 20]) ?_ ?_
   ·unfold jH
    by_cases hc:s=2/\u=false
    ·have hD:mvD a s u=[⟨30,a,0,true⟩]:=by unfold mvD;rw[if_pos hc]
     obtain⟨h2,rfl⟩:=hc;rw[hD];clear hD;have hd:decide (((s:Nat):Int)=2)=true:=decide_eq_true byO;replace h2:s<=2/\2<=s:=byO;refine bL ?_;clear hd;refine aA ?_;refine aT ?_;have hxa:Ext H2 (H2++[some (mvC ⟨30,a,0,true⟩)]):=Ext.app _ _;refine Mp (enc:=mvC) (r:=⟨30,a,0,true⟩) byO byO iW vn (ho.mono hxa) (hx2.trans hxa) hb byO (by unfold mvA mvB mv3;split<;>split<;>simp) aF ?_;intro v' b' H3 ho3 hx3 hb3 hl3;refine aA ?_;exact⟨hx3,_,_,hb3,ho3,aH rfl⟩
    ·have hD:mvD a s u=[]:=by unfold mvD;rw[if_neg hc]
     rw[hD,List.append_nil];clear hD;have hcc:(decide (((s:Nat):Int)=2)&&!u)=false:=by
      by_cases h1:s=2
      ·have:¬ u=false:=fun h2=>hc ⟨h1,h2⟩
       cases u<;>simp_all
      ·rw[decide_eq_false byO];rfl
     refine an ?_
     ·(try simp only[aD])
      exact⟨hx2,_,_,hb,ho,aH rfl⟩
   ·rintro S' H3 ⟨hx3,w,b,hb,ho,z,rfl⟩
    refine aA ?_;refine aK ?_;exact⟨hxb.trans hx3,b,byO,ho⟩
end
theorem OwnG.keep{lo n b b':Nat}{H H':Heap}{v:Value}{X:List Value}(h:OwnG lo n H v b X)(e:Keep b' H H')(hne:b≠b'):OwnG lo n H' v b X:=by
 rcases h with h|⟨h1,k,h2,h3,h4,h5⟩
 ·exact .inl (h.keep e hne)
 ·exact .inr ⟨h1,k,h2,h3,h4,e.get h5 hne⟩
theorem az{b b':Nat}{H H1 H2:Heap}(h:Keep b H H1)(hb:b'=b\/H.length<=b')(h2:Keep b' H1 H2):Keep b H H2:=
 ⟨Nat.le_trans h.len h2.len,fun i hi hne=>by rw[h2.eq i (bd₀ hi h.len) byO,h.eq i hi hne]⟩
theorem Ext.keep{b:Nat}{H H1:Heap}(h:Ext H H1):Keep b H H1:=⟨h.1,fun i hi _=>h.2 i hi⟩
def AppG(lo n:Nat)(G:Heap)(b:Nat)(X:List Value)(w:Value)(H':Heap):Prop:=∃b',(b'=b\/G.length<=b')/\b'<H'.length/\OwnG lo n H' w b' X/\Keep b G H'
theorem AppG.self{lo n b:Nat}{G:Heap}{w:Value}{X:List Value}(h:OwnG lo n G w b X)(hb:b<G.length):AppG lo n G b X w G:=⟨b,.inl rfl,hb,h,Ext.keep (Ext.refl _)⟩
theorem AppG.trans{lo n b b':Nat}{G H1 G2 H2:Heap}{w:Value}{X:List Value}(hk:Keep b G H1)(hb:b'=b\/G.length<=b')(hx:Ext H1 G2)(h:AppG lo n G2 b' X w H2):AppG lo n G b X w H2:=by
 obtain⟨b2,h1,h2,h3,h4⟩:=h;have l1:=hk.len;have l2:=hx.1;exact⟨b2,byO,h2,h3,az hk hb (az (Ext.keep hx) (.inl rfl) h4)⟩
theorem AppG.ext{lo n b:Nat}{A G H1:Heap}{w:Value}{X:List Value}(h:AppG lo n G b X w H1)(e:Ext A G)(hb:A.length<=b):Ext A H1:=by
 obtain⟨b2,h1,h2,h3,h4⟩:=h;exact h4.ext e hb
section
variable {α:Type}{enc:α->List Value}{n:Nat}
theorem Mq{cp:FuncId->Option CF}{lo:Nat}{z:List Value}{b t:Nat}{sp:Option Nat}{m:Nat}{L:List α}{r:α}{R:Value->Heap->Prop}(hn:0<n)(hn2:n<=100)(he:∀x,(enc x).length=n)(h1:∀x,oneCells (enc x)=true)(ho:OwnG lo n H v b (cat enc L))(hlo:lo<=H.length)(hbig:L.length<=10000000)(ht:H.get t=some (enc r))
  (k:∀v' H',AppG lo n H b (cat enc (L++[r])) v' H'->R v' H'):wpH cp lo (.app n z) [v,.slice (some ⟨t,0,sp⟩) 1 m] H R:=by
 have hcl:=kS he L;have hcb:(cat enc L).length<=1000000000:=by
  rw[hcl];exact Nat.le_trans (Nat.mul_le_mul hbig hn2) (by decide)
 have hl1:(enc r).length=n:=he r;rcases ho with ho|⟨hb,q,hq0,hq,rfl,hg⟩
 ·refine di ho byO hn byO byO ht byO (c:=enc r) (by rw[List.drop_zero,List.take_of_length_le byO]) (h1 r) ?_
  intro v' H' ho' hk hl';refine k v' H' ⟨H.length,.inr (Nat.le_refl _),byO,.inl ?_,hk⟩;rw[jS];simpa[cat]using ho'
 ·have e1:H.cells t 0 (1*n)=some (enc r):=by rw[cells_get ht byO,List.drop_zero,List.take_of_length_le byO]
  have e2:H.cells b 0 (q*n)=some (cat enc L):=by rw[cells_get hg byO,List.drop_zero,List.take_of_length_le byO]
  have hq1:q<=(cat enc L).length:=by rw[<-hq];exact Nat.le_mul_of_pos_right q hn
  simp only[wpH,cK,hsem,e1,ao₀,h1 r,if_true,aZ];rw[if_neg byO,if_neg (by show ¬ br<_;unfold br;omega),e2];simp only[Option.map_some];refine k _ _ ⟨H.length,.inr (Nat.le_refl _),by simp,.inl ⟨byO,.inr ⟨q+1,byO,?_,rfl,?_⟩⟩,Ext.keep (Ext.app _ _)⟩
  ·rw[jS,as₀,<-hq,Nat.succ_mul];simp[cat,hl1]
  ·rw[aF,jS];simp[cat]
end
theorem fR{α β:Type}{f:α->List β}{c:Nat}:∀{l:List α},(∀x ∈ l,(f x).length<=c)->(l.flatMap f).length<=l.length*c
 | [],h=>by simp
 | x::l,h=>by
  rw[List.flatMap_cons,as₀,ak₀,Nat.succ_mul];have:=fR (l:=l) (fun y hy=>h y (List.mem_cons_of_mem _ hy));have:=h x (by simp);omega
theorem zA{first:Nat}{u v:Mv}{L:List Mv}:(tF first u v L).length=L.length:=by simp[tF]
theorem yz{first:Nat}{lower:Bool}{u:Mv}{L:List Mv}:(tX p first lower u L).length<=L.length*5:=fR fun v _=>by rw[zA];exact jI _ _ _ _ _
theorem tE{first:Nat}{lower:Bool}{L:List Mv}:(wq p first lower L).length<=L.length*25:=fR fun u _=>by
 have:=yz (p:=p) (first:=first) (lower:=lower) (u:=u) (L:=jH p u.a u.s u.u lower);have:=jI p u.a u.s u.u lower;omega
section
variable {lo:Nat}{H:Heap}{sb cb:Nat}{v:Value}{p:List UInt8}{cs:List Nat}
open XYe
theorem Mi{a st first:Nat}{lower:Bool}(hs:SrH H sb cb v p cs)(ha:a<=p.length)(hst:st<8)(hf:first<=9)(hlo:lo<=H.length):Ev cp lo 195 [ptr sb,aB a,aB st,aB first,.bool lower] H (fun r H'=>Ext H H'/\∃b,H.length<=b/\OwnG lo 7 H' r b (cat aQ (kJ p a st first lower))):=by
 have hi:=hs.hi;have hmod:(st:Int).tmod 4=((st%4:Nat):Int):=by rw[Int.tmod_eq_emod_of_nonneg byO];omega
 have hge:decide ((4:Int)<=(st:Nat))=decide (4<=st):=by
  by_cases h:4<=st
  ·rw[decide_eq_true h,decide_eq_true byO]
  ·rw[decide_eq_false h,decide_eq_false byO]
 have hst4:st%4<4:=Nat.mod_lt _ (by decide);unfold kJ;generalize st%4=s at hmod hst4;generalize decide (4<=st)=u at hge;refine stG rfl rfl ?_;unfold L9;simp only[kB,aD];refine aA ?_;clear hge hmod;have hxb:Ext H (H++[some (aQ (eu a)),some [aB a,aB s,.bool u]]):=Ext.app _ _;have hg0:(H++[some (aQ (eu a)),some [aB a,aB s,.bool u]]).get H.length=some (aQ (eu a)):=aF;have hg1:(H++[some (aQ (eu a)),some [aB a,aB s,.bool u]]).get (H.length+1)=some [aB a,aB s,.bool u]:=by rw[bC];rfl
 have hl0:(H++[some (aQ (eu a)),some [aB a,aB s,.bool u]]).length=H.length+2:=by simp
 have hl0':(H++[some (aQ (eu a)),some [aB a,aB s,.bool u]]).length<=H.length+2/\H.length+2<=(H++[some (aQ (eu a)),some [aB a,aB s,.bool u]]).length:=byO;clear hl0;change wpS cp lo _ _ _ (H++[some (aQ (eu a)),some [aB a,aB s,.bool u]]);generalize H++[some (aQ (eu a)),some [aB a,aB s,.bool u]]=H0 at hxb hg0 hg1 hl0';have ho0:OwnG lo 7 H0 (.slice (some ⟨H.length,0,none⟩) 1 1) H.length (cat aQ [eu a]):=.inr ⟨hlo,1,byO,rfl,rfl,hg0⟩;refine aT ?_;refine aC (OZ (hs.ext hxb) ha byO byO) ?_;rintro mu H1 ⟨hx1,bu,hbu,hoU⟩;have hUl:=jI p a s u lower;have hUok:=mL (s:=s) (u:=u) (lower:=lower) ha;generalize jH p a s u lower=U at hoU hUl hUok;obtain⟨au,rfl⟩:=hoU.len byO iW;replace ho0:=ho0.mono hx1;have hx01:=hxb.trans hx1;have hl1:=hx1.1;clear hg0 hg1 hxb;refine aA ?_;refine aS (fun k S H'=>∃w,AppG lo 7 H1 H.length (cat aQ (eu a::wq p first lower (U.take k))) w H'/\∃(z:Nat->Value),S=[ptr sb,aB a,z 2,aB first,.bool lower,z 5,w,z 7,z 8,z 9,z 10,z 11,z 12,z 13,.slice au U.length U.length,.int .i64 (U.length:Nat),.int .i64 (k:Nat),z 17,z 18,z 19,z 20,z 21,z 22,z 23,z 24,z 25,z 26,z 27,z 28,z 29]) U.length ⟨_,AppG.self ho0 byO,aH ncM⟩ ?_ ?_ ?_
 ·rintro k S H' hk ⟨w,hap,z,rfl⟩
  exact⟨decide ((k:Int)<(U.length:Nat)),by simp(disch:=try exact dO)only[evB,xtr,Nat.reduceAdd,Nat.reduceBEq,Int.reduceToNat, *],by simp⟩
 ·rintro k S H2 hk ⟨w,hap,z,rfl⟩
  obtain⟨b2,hb2,hb2l,ho2,hk2⟩:=hap;have hx2:=hk2.ext hx01 (Nat.le_refl _);have hU2:=hoU.keep hk2 byO;obtain⟨p2,o2,X2,i2,g2,l2,e2⟩:=hU2.at byO iW hk;have hokU:=hUok _ (List.getElem_mem hk);have hsplit:=kZ (fun u=>tX p first lower u (jH p u.a u.s u.u lower)) U k hk;change wq p first lower (U.take (k+1))=wq p first lower (U.take k)++_ at hsplit
  have hTl:=tE (p:=p) (first:=first) (lower:=lower) (L:=U.take k);have hTk:(U.take k).length=k:=List.length_take_of_le byO;rw[hsplit];clear hsplit;generalize wq p first lower (U.take k)=T1 at ho2 hTl
  generalize U[k]=um at e2 hokU;have hl2:=hk2.len;refine aA ?_;change wpS cp lo _ _ _ (H2++[some (mvC um)]);have hxc:Ext H2 (H2++[some (mvC um)]):=Ext.app _ _;have hgu:(H2++[some (mvC um)]).get H2.length=some [aB um.v,aB um.a,aB um.s,.bool um.u]:=aF;have hlc:(H2++[some (mvC um)]).length<=H2.length+1/\H2.length+1<=(H2++[some (mvC um)]).length:=by simp
  generalize H2++[some (mvC um)]=H3 at hxc hgu hlc;obtain⟨hv1,hv2,hv3,hv4⟩:=hokU;clear g2 l2 e2 i2 hU2;refine aT ?_;refine aC (OZ (hs.ext (hx2.trans hxc)) hv3 hv4 byO) ?_;rintro mv H4 ⟨hx4,bv,hbv,hoV⟩;have hVl:=jI p um.a um.s um.u lower;have hVok:=mL (s:=um.s) (u:=um.u) (lower:=lower) hv3;generalize jH p um.a um.s um.u lower=V at hoV hVl hVok;obtain⟨av,rfl⟩:=hoV.len byO iW;have ho4:=ho2.mono (hxc.trans hx4);have hx24:=hxc.trans hx4;have hgu4:=hx4.get hgu;have hl4:=hx4.1;have hx04:=hx2.trans hx24;clear hgu;refine aA ?_;refine aS (fun j S H'=>∃w,AppG lo 7 H4 b2 (cat aQ (eu a::(T1++tX p first lower um (V.take j)))) w H'/\∃(z:Nat->Value),S=[ptr sb,aB a,z 2,aB first,.bool lower,z 5,w,z 7,ptr H2.length,z 9,z 10,z 11,z 12,z 13,.slice au U.length U.length,.int .i64 (U.length:Nat),.int .i64 (k:Nat),z 17,.slice av V.length V.length,.int .i64 (V.length:Nat),.int .i64 (j:Nat),z 21,z 22,z 23,z 24,z 25,z 26,z 27,z 28,z 29]) V.length ⟨_,AppG.self (by simpa[tX]using ho4) byO,aH ncM⟩ ?_ ?_ ?_
  ·rintro j S H' hj ⟨w,hap,z,rfl⟩
   exact⟨decide ((j:Int)<(V.length:Nat)),by simp(disch:=try exact dO)only[evB,xtr,Nat.reduceAdd,Nat.reduceBEq,Int.reduceToNat, *],by simp⟩
  ·rintro j S H5 hj ⟨w,hap,z,rfl⟩
   obtain⟨b5,hb5,hb5l,ho5,hk5⟩:=hap;have hx5:=hk5.ext hx04 byO;have hV5:=hoV.keep hk5 byO;have hgu5:=hk5.get hgu4 byO;obtain⟨p5,o5,X5,i5,g5,l5,e5⟩:=hV5.at byO iW hj;have hokV:=hVok _ (List.getElem_mem hj);have hsplit:=kZ (fun v=>tF first um v (jH p v.a v.s v.u lower)) V j hj;change tX p first lower um (V.take (j+1))=tX p first lower um (V.take j)++_ at hsplit
   have hT2l:=yz (p:=p) (first:=first) (lower:=lower) (u:=um) (L:=V.take j);have hTj:(V.take j).length=j:=List.length_take_of_le byO;rw[hsplit];clear hsplit;generalize tX p first lower um (V.take j)=T2 at ho5 hT2l
   generalize V[j]=vm at e5 hokV;have hl5:=hk5.len;refine aA ?_;change wpS cp lo _ _ _ (H5++[some (mvC vm)]);have hxd:Ext H5 (H5++[some (mvC vm)]):=Ext.app _ _;have hgv:(H5++[some (mvC vm)]).get H5.length=some [aB vm.v,aB vm.a,aB vm.s,.bool vm.u]:=aF;have hld:(H5++[some (mvC vm)]).length<=H5.length+1/\H5.length+1<=(H5++[some (mvC vm)]).length:=by simp
   generalize H5++[some (mvC vm)]=H6 at hxd hgv hld;obtain⟨hw1,hw2,hw3,hw4⟩:=hokV;clear g5 l5 e5 i5 hV5;have hgu6:=hxd.get hgu5;refine aT ?_;refine aC (OZ (hs.ext (hx5.trans hxd)) hw3 hw4 byO) ?_;rintro mw H7 ⟨hx7,bw,hbw,hoW⟩;have hWl:=jI p vm.a vm.s vm.u lower;have hWok:=mL (s:=vm.s) (u:=vm.u) (lower:=lower) hw3;generalize jH p vm.a vm.s vm.u lower=W at hoW hWl hWok;obtain⟨aw,rfl⟩:=hoW.len byO iW;have ho7:=ho5.mono (hxd.trans hx7);have hx57:=hxd.trans hx7;have hgv7:=hx7.get hgv;have hgu7:=hx7.get hgu6;have hl7:=hx7.1;have hx07:=hx5.trans hx57;clear hgv hgu6;refine aA ?_;refine aS (fun q S H'=>∃w,AppG lo 7 H7 b5 (cat aQ (eu a::(T1++(T2++tF first um vm (W.take q))))) w H'/\∃(z:Nat->Value),S=[ptr sb,aB a,z 2,aB first,.bool lower,z 5,w,z 7,ptr H2.length,ptr H5.length,z 10,z 11,z 12,z 13,.slice au U.length U.length,.int .i64 (U.length:Nat),.int .i64 (k:Nat),z 17,.slice av V.length V.length,.int .i64 (V.length:Nat),.int .i64 (j:Nat),z 21,.slice aw W.length W.length,.int .i64 (W.length:Nat),.int .i64 (q:Nat),z 25,z 26,z 27,z 28,z 29]) W.length ⟨_,AppG.self (by simpa[tF]using ho7) byO,aH ncM⟩ ?_ ?_ ?_
   ·rintro q S H' hq ⟨w,hap,z,rfl⟩
    exact⟨decide ((q:Int)<(W.length:Nat)),by simp(disch:=try exact dO)only[evB,xtr,Nat.reduceAdd,Nat.reduceBEq,Int.reduceToNat, *],by simp⟩
   ·rintro q S H8 hq ⟨w,hap,z,rfl⟩
    obtain⟨b8,hb8,hb8l,ho8,hk8⟩:=hap;have hx8:=hk8.ext hx07 byO;have hW8:=hoW.keep hk8 byO;have hgu8:=hk8.get hgu7 byO;have hgv8:=hk8.get hgv7 byO;obtain⟨p8,o8,X8,i8,g8,l8,e8⟩:=hW8.at byO iW hq;have hokW:=hWok _ (List.getElem_mem hq);have hsplit:=map_take (fun w:Mv=>jh um.v vm.v w.v w.a (iM first w)) W q hq;change tF first um vm (W.take (q+1))=tF first um vm (W.take q)++_ at hsplit
    have hT3l:=zA (first:=first) (u:=um) (v:=vm) (L:=W.take q);have hTq:(W.take q).length=q:=List.length_take_of_le byO;rw[hsplit];clear hsplit;generalize tF first um vm (W.take q)=T3 at ho8 hT3l
    generalize W[q]=wm at e8 hokW;have hl8:=hk8.len;obtain⟨hz1,hz2,hz3,hz4⟩:=hokW;refine aA ?_;change wpS cp lo _ _ _ (H8++[some (mvC wm)]);have hxe:Ext H8 (H8++[some (mvC wm)]):=Ext.app _ _;have hgw:(H8++[some (mvC wm)]).get H8.length=some [aB wm.v,aB wm.a,aB wm.s,.bool wm.u]:=aF;have hle:(H8++[some (mvC wm)]).length<=H8.length+1/\H8.length+1<=(H8++[some (mvC wm)]).length:=by simp
    generalize H8++[some (mvC wm)]=H9 at hxe hgw hle;clear g8 l8 e8 i8 hW8;have hgu9:=hxe.get hgu8;have hgv9:=hxe.get hgv8;replace ho8:=ho8.mono hxe;have hmS:iM first wm=if wm.u then first+wm.s+4 else first+wm.s:=rfl
    have hmle:=yO (first:=first) hz4;refine ba (fun S' H'=>H9=H'/\∃(z:Nat->Value),S'=[ptr sb,aB a,z 2,aB first,.bool lower,z 5,w,z 7,ptr H2.length,ptr H5.length,ptr H8.length,aB (iM first wm),z 12,z 13,.slice au U.length U.length,.int .i64 (U.length:Nat),.int .i64 (k:Nat),z 17,.slice av V.length V.length,.int .i64 (V.length:Nat),.int .i64 (j:Nat),z 21,.slice aw W.length W.length,.int .i64 (W.length:Nat),.int .i64 (q:Nat),z 25,z 26,z 27,z 28,z 29]) ?_ ?_
    ·generalize iM first wm=ms at hmS hmle
     cases hwu:wm.u with
     | true=>
      rw[hwu]at hmS hgw;simp only[if_true]at hmS;subst hmS;refine bL ?_;refine aA ?_;exact⟨by trivial,aH ncM⟩
     | false=>
      rw[hwu]at hmS hgw;simp only[ah₀,if_false]at hmS;subst hmS;refine aP ?_ ?_<;>intro h
      ·cases h
      ·clear h
       (try simp only[aD]);exact⟨by trivial,aH ncM⟩
    ·rintro S' H9' ⟨rfl,z,rfl⟩
     clear hmS;generalize iM first wm=ms at hmle
     refine bF ?_;refine aC (TV (lo:=lo) (u:=um.v) (v:=vm.v) (w:=wm.v) (a:=wm.a) (m:=ms) byO byO byO byO byO byO) ?_;rintro r H10 ⟨hx10,rfl⟩;have hTl2:T1.length+T2.length+T3.length<=1000:=byO;clear hgu9 hgv9 hgw hgu8 hgv8;generalize jh um.v vm.v wm.v wm.a ms=o;have hl10:=hx10.1;refine aA ?_;change wpS cp lo _ _ _ (H10++[some (aQ o)]);have hxf:Ext H10 (H10++[some (aQ o)]):=Ext.app _ _;have hgo:(H10++[some (aQ o)]).get H10.length=some (aQ o):=aF;have hlf:(H10++[some (aQ o)]).length<=H10.length+1/\H10.length+1<=(H10++[some (aQ o)]).length:=by simp
     generalize H10++[some (aQ o)]=H11 at hxf hgo hlf;refine aT ?_;refine Mq (enc:=aQ) (r:=o) byO byO gm yU (ho8.mono (hx10.trans hxf)) byO (by simp;omega) hgo ?_;intro v' H12 hap;have hap2:=AppG.trans hk8 hb8 (hxe.trans (hx10.trans hxf)) hap;clear hgo;refine aA ?_;exact⟨_,by simpa using hap2,aH ncM⟩
   ·rintro S H8 ⟨w,hap,z,rfl⟩
    rw[List.take_length]at hap;have hap2:=AppG.trans hk5 hb5 hx57 hap;refine aA ?_;exact⟨_,hap2,aH ncM⟩
  ·rintro S H5 ⟨w,hap,z,rfl⟩
   rw[List.take_length]at hap;have hap2:=AppG.trans hk2 hb2 hx24 hap;refine aA ?_;exact⟨_,hap2,aH ncM⟩
 ·rintro S H2 ⟨w,hap,z,rfl⟩
  rw[List.take_length]at hap;have hx2:=hap.ext hx01 (Nat.le_refl _);obtain⟨b2,hb2,hb2l,ho2,hk2⟩:=hap;refine aA ?_;refine aK ?_;exact⟨hx2,b2,byO,ho2⟩
end
section
variable {lo:Nat}{H:Heap}{sb cb:Nat}{v:Value}{p:List UInt8}{cs:List Nat}
theorem keepSet{b:Nat}{x:Option (List Value)}:Keep b H (List.set H b x):=⟨by simp,fun i _ hne=>aI (fun e=>hne e.symm)⟩
theorem nU{cp:FuncId->Option CF}{z:List Value}{w:Value}{b:Nat}{L:List Opt}{o:Opt}{R:Value->Heap->Prop}(ho:OwnG lo 7 H w b (cat aQ L))(hlo:lo<=H.length)(hbig:L.length<=10000000)
  (k:∀v' H',AppG lo 7 H b (cat aQ (L++[o])) v' H'->R v' H'):wpH cp lo (.app 7 z) [w,.slice (some ⟨H.length,0,none⟩) 1 1] (H++[some (aQ o)]) R:=by
 have hx:Ext H (H++[some (aQ o)]):=Ext.app _ _;refine Mq (enc:=aQ) (r:=o) byO byO gm yU (ho.mono hx) (by simp;omega) hbig aF ?_;intro v' H' h;exact k v' H' (AppG.trans (Ext.keep (Ext.refl _)) (.inl rfl) hx h)
open XYe
theorem T5{a:Nat}(hs:SrH H sb cb v p cs)(ha:a<=p.length)(hlo:lo<=H.length):Ev cp lo 196 [ptr sb,aB a] H (fun r H'=>Ext H H'/\∃b,H.length<=b/\OwnG lo 7 H' r b (cat aQ (tL p a))):=by
 have hi:=hs.hi;have hgs:=hs.g;obtain⟨ad,c,ev⟩:=hs.pl.len;rw[ev]at hgs;refine stG rfl rfl ?_;unfold La;simp only[kB,aD];refine aA ?_;have hxb:Ext H (H++[some (aQ (eu a))]):=Ext.app _ _;have hg0:(H++[some (aQ (eu a))]).get H.length=some (aQ (eu a)):=aF;have hlc:(H++[some (aQ (eu a))]).length<=H.length+1/\H.length+1<=(H++[some (aQ (eu a))]).length:=by simp
 change wpS cp lo _ _ _ (H++[some (aQ (eu a))]);generalize H++[some (aQ (eu a))]=H0 at hxb hg0 hlc;have ho0:OwnG lo 7 H0 (.slice (some ⟨H.length,0,none⟩) 1 1) H.length (cat aQ [eu a]):=.inr ⟨hlo,1,byO,rfl,rfl,hg0⟩;have hgs0:=hxb.get hgs;clear hgs;unfold tL;by_cases h3:a+3<=p.length
 ·have hd:decide ((p.length:Int)-(a:Nat)<3)=false:=decide_eq_false byO
  refine an ?_;clear hd;refine aA ?_;have hxa:Ext H0 (H0++[some [Value.int .i64 0,Value.int .i64 0,Value.int .i64 0]]):=Ext.app _ _;have hga:(H0++[some [Value.int .i64 0,Value.int .i64 0,Value.int .i64 0]]).get H0.length=some [Value.int .i64 0,Value.int .i64 0,Value.int .i64 0]:=aF;have hla:(H0++[some [Value.int .i64 0,Value.int .i64 0,Value.int .i64 0]]).length<=H0.length+1/\H0.length+1<=(H0++[some [Value.int .i64 0,Value.int .i64 0,Value.int .i64 0]]).length:=by simp
  generalize H0++[some [Value.int .i64 0,Value.int .i64 0,Value.int .i64 0]]=H1 at hxa hga hla;have hgs1:=hxa.get hgs0;have hx1:=hxb.trans hxa;have ho1:=ho0.mono hxa;clear hg0 ho0 hgs0;refine aS (fun k S H'=>(Ext H H'/\OwnG lo 7 H' (.slice (some ⟨H.length,0,none⟩) 1 1) H.length (cat aQ [eu a])/\H'.get sb=some [.slice ad p.length c,.slice (some ⟨cb,0,none⟩) (p.length+1) (p.length+1)])/\(∃X:List Value,(X.length<=3/\3<=X.length)/\H'.get H0.length=some X/\∀i,i<k->X[i]?=some (aB (dL (by' p (a+i))-1))/\dL (by' p (a+i))≠0)/\∃(z:Nat->Value),S=[ptr sb,aB a,z 2,.slice (some ⟨H.length,0,none⟩) 1 1,ptr H0.length,z 5,z 6,.int .i64 (k:Nat),z 8,z 9,z 10,z 11,z 12,z 13]) 3 ⟨⟨hx1,ho1,hgs1⟩,⟨_,by simp,hga,fun i hi=>absurd hi byO⟩,aH ncM⟩ ?_ ?_ ?_
  ·rintro k S H' hk ⟨h1,h2,z,rfl⟩
   exact⟨decide ((k:Int)<3),by simp(disch:=try exact dO)only[evB,xtr,Nat.reduceAdd,Nat.reduceBEq,Int.reduceToNat, *],by simp;omega⟩
  ·rintro k S H2 hk ⟨⟨hx2,ho2,hgs2⟩,⟨X,hX,hgl,hli⟩,z,rfl⟩
   have hap:a+k<p.length:=byO;have hc12:∃h12:a+k<p.length,True:=⟨hap,trivial⟩;obtain⟨bb,oo,xs,hia,hgx,hxx⟩:=gN (hs.ext hx2).pl hap;rw[ev]at hia;have hby:=(p.getD (a+k) 0).toNat_lt;have hll:=Heap.get_lt hgl;have hll2:=hx2.1;replace hli:False\/∀i,i<k->X[i]?=some (aB (dL (by' p (a+i))-1))/\dL (by' p (a+i))≠0:=.inr hli;obtain⟨d,hdd⟩:∃d,False\/d=p.getD (a+k) 0:=⟨_,.inr rfl⟩;rw[<-hdd.resolve_left id]at hxx hby;simp only[ap₀]at hia;have hmd:dL d.toNat<=40:=j7 _;refine aA ?_;refine aT ?_;refine aC (VU (lo:=lo) (k:=d.toNat) hby byO) ?_;rintro r H3 ⟨rfl,hx3⟩;have hgl3:=hx3.get hgl;have hll3:=hx3.1;refine aA ?_;have hk4:Keep H0.length H3 (List.set H3 H0.length (some (X.set k (Value.int .i64 ((dL d.toNat:Int)-1))))):=keepSet;have hg4:Heap.get (List.set H3 H0.length (some (X.set k (Value.int .i64 ((dL d.toNat:Int)-1))))) H0.length=some (X.set k (Value.int .i64 ((dL d.toNat:Int)-1))):=aG byO;generalize List.set H3 H0.length (some (X.set k (Value.int .i64 ((dL d.toNat:Int)-1))))=H4 at hk4 hg4;have hx4:=hk4.ext (hx2.trans hx3) byO;have ho4:=(ho2.mono hx3).keep hk4 byO;have hsl:=Heap.get_lt hgs1;have hgs4:=hk4.get (hx3.get hgs2) (by have:=Heap.get_lt hs.g;omega);have hXk:(X.set k (Value.int .i64 ((dL d.toNat:Int)-1)))[k]?=some (Value.int .i64 ((dL d.toNat:Int)-1)):=by rw[List.getElem?_set_self byO]
   have hXl:(X.set k (Value.int .i64 ((dL d.toNat:Int)-1))).length<=3/\3<=(X.set k (Value.int .i64 ((dL d.toNat:Int)-1))).length:=by simp;omega
   have hXi:False\/∀i,i<k->(X.set k (Value.int .i64 ((dL d.toNat:Int)-1)))[i]?=X[i]?:=.inr (fun i hi=>by rw[List.getElem?_set_ne byO]);generalize X.set k (Value.int .i64 ((dL d.toNat:Int)-1))=X4 at hg4 hXk hXl hXi;clear hgl hgl3 hk4 hgx;by_cases hz:dL d.toNat=0
   ·have hd:decide ((dL d.toNat:Int)-1<0)=true:=decide_eq_true byO
    have hno:¬ (a+3<=p.length/\dL (by' p a)≠0/\dL (by' p (a+1))≠0/\dL (by' p (a+2))≠0):=by
     rw[hdd.resolve_left id]at hz;rintro⟨_,n0,n1,n2⟩;have:k=0\/k=1\/k=2:=byO;rcases this with rfl|rfl|rfl
     ·exact n0 hz
     ·exact n1 hz
     ·exact n2 hz
    rw[if_neg hno];clear hno;replace hz:dL d.toNat<=0:=byO;refine bL ?_;refine aA ?_;refine aK ?_;exact⟨hx4,_,Nat.le_refl _,ho4⟩
   ·have hd:decide ((dL d.toNat:Int)-1<0)=false:=decide_eq_false byO
    replace hz:1<=dL d.toNat:=byO;refine aP ?_ ?_<;>intro h
    ·simp at h
    ·clear h hd
     refine aA ?_;refine⟨⟨hx4,ho4,hgs4⟩,⟨X4,hXl,hg4,fun i hi=>?_⟩,aH ncM⟩;by_cases hik:i=k
     ·subst hik
      rw[hXk];rw[hdd.resolve_left id]at hz ⊢;refine⟨?_,by unfold by';omega⟩;unfold aB by';congr 2;omega
     ·rw[hXi.resolve_left id i byO]
      exact hli.resolve_left id i byO
  ·rintro S H2 ⟨⟨hx2,ho2,hgs2⟩,⟨X,hX,hgl,hli⟩,z,rfl⟩
   obtain⟨e0,n0⟩:=hli 0 byO;obtain⟨e1,n1⟩:=hli 1 byO;obtain⟨e2,n2⟩:=hli 2 byO;rw[if_pos ⟨h3,n0,n1,n2⟩];have m0:dL (by' p a)-1<=39:=by have:=j7 (by' p a);omega
   have m1:dL (by' p (a+1))-1<=39:=by have:=j7 (by' p (a+1));omega
   have m2:dL (by' p (a+2))-1<=39:=by have:=j7 (by' p (a+2));omega
   replace e0:X[0]?=some (aB (dL (by' p a)-1)):=e0;clear hli n0 n1 n2;generalize dL (by' p a)-1=q0 at e0 m0;generalize dL (by' p (a+1))-1=q1 at e1 m1;generalize dL (by' p (a+2))-1=q2 at e2 m2;have hll:=Heap.get_lt hgl;have hl2:=hx2.1;refine bF ?_;refine aC (TV (lo:=lo) (u:=q0) (v:=q1) (w:=q2) (a:=a+3) (m:=17) byO byO byO byO byO byO) ?_;rintro r H3 ⟨hx3,rfl⟩;have hl3:=hx3.1;have ho3:=ho2.mono hx3;clear hgl;generalize jh q0 q1 q2 (a+3) 17=o;refine aA ?_;change wpS cp lo _ _ _ (H3++[some (aQ o)]);refine aT ?_;refine nU (o:=o) ho3 byO (by simp) ?_;intro v' H4 hap;have hx4:=hap.ext (hx2.trans hx3) (Nat.le_refl _);obtain⟨b4,h1,h2,h3,h4⟩:=hap;refine aA ?_;refine aK ?_;exact⟨hx4,b4,byO,h3⟩
 ·have hd:decide ((p.length:Int)-(a:Nat)<3)=true:=decide_eq_true byO
  rw[if_neg (fun h=>h3 h.1)];refine bL ?_;refine aA ?_;refine aK ?_;exact⟨hxb,_,Nat.le_refl _,ho0⟩
end
theorem Rp{g c:Nat}(hc:c<64):64*g ||| c=64*g+c:=(Nat.two_pow_add_eq_or_of_lt (i:=6) hc g).symm
section
variable {lo:Nat}{H:Heap}{sb cb:Nat}{v:Value}{p:List UInt8}{cs:List Nat}
theorem xe{p:List UInt8}{at':Nat}:∀(k n g:Nat),(jA p at' k n g).length<=k+1
 | 0,n,g=>by simp[jA]
 | k+1,n,g=>by
  have:=xe (p:=p) (at':=at') k (n+1) (64*g+by' p (at'+n)%64);simp only[jA];split<;>simp<;>omega
theorem Cm{a k g:Nat}(hk:k<4)(h:¬ (a+k<p.length/\32<=by' p (a+k)/\by' p (a+k)<=94)):jA p a (4-k) k g=[fu (64*g+31) (k+1) (a+k) 0]:=by
 obtain⟨j,hj⟩:∃j,4-k=j+1:=⟨3-k,byO⟩;rw[hj,jA,if_neg h]
theorem IX{a k g:Nat}(hk:k<4)(h:a+k<p.length/\32<=by' p (a+k)/\by' p (a+k)<=94):jA p a (4-k) k g=fu (64*g+31) (k+1) (a+k) 0::jA p a (4-(k+1)) (k+1) (64*g+by' p (a+k)%64):=by
 obtain⟨j,hj⟩:∃j,4-k=j+1:=⟨3-k,byO⟩;rw[hj,jA,if_pos h,show 4-(k+1)=j by omega]
open XYe
theorem UB{a:Nat}(hs:SrH H sb cb v p cs)(ha:a<=p.length)(hlo:lo<=H.length):Ev cp lo 197 [ptr sb,aB a] H (fun r H'=>Ext H H'/\∃b,H.length<=b/\OwnG lo 7 H' r b (cat aQ (pJ p a))):=by
 have hi:=hs.hi;have hsl:=Heap.get_lt hs.g;refine stG rfl rfl ?_;unfold Lb;simp only[kB,aD];refine aA ?_;refine aS (fun k S H'=>Ext H H'/\∃w b g L,(H.length<=b/\OwnG lo 7 H' w b (cat aQ L))/\(L++jA p a (4-k) k g=pJ p a/\L.length=k/\g<2^(6*k)/\a+k<=p.length)/\∃(z:Nat->Value),S=[ptr sb,aB a,z 2,w,aB g,z 5,z 6,.int .i64 (k:Nat),z 8,z 9,z 10,z 11,z 12,z 13,z 14,z 15]) 4 ⟨Ext.refl _,_,H.length,0,[],⟨Nat.le_refl _,OwnG.nil hlo⟩,⟨rfl,rfl,by decide,ha⟩,aH rfl⟩ ?_ ?_ ?_
 ·rintro k S H' hk ⟨hx,w,b,g,L,h1,h2,z,rfl⟩
  exact⟨decide ((k:Int)<4),by simp(disch:=try exact dO)only[evB,xtr,Nat.reduceAdd,Nat.reduceBEq,Int.reduceToNat, *],by simp;omega⟩
 ·rintro k S H1 hk ⟨hx1,w,b,g,L,⟨hb,ho⟩,⟨hL,hLk,hg,hak⟩,z,rfl⟩
  have hs1:=hs.ext hx1;have hgs:=hs1.g;obtain⟨ad,c,ev⟩:=hs.pl.len;rw[ev]at hgs;have hl1:=hx1.1;replace hLk:L.length<=k/\k<=L.length:=byO;replace hL:False\/_:=.inr hL;have h18:(2:Nat)^(6*k)<=262144:=Nat.le_trans (Nat.pow_le_pow_right (by decide) (show 6*k<=18 by omega)) (by decide);have h6:=Sb k;replace hg:False\/_:=.inr hg;have hg3:g<262144:=by have:=hg.resolve_left id;omega
  have hor:IntKind.i64.wrap ((BitVec.ofInt IntKind.i64.bits ((64*g:Nat):Int) ||| BitVec.ofInt IntKind.i64.bits ((31:Nat):Int)).toNat:Int)=((64*g+31:Nat):Int):=by rw[G3 byO byO,Rp byO]
  have hsh:IntKind.i64.wrap ((g:Int)*2^(min 6 IntKind.i64.bits))=((64*g:Nat):Int):=by
   have e:min 6 IntKind.i64.bits=6:=by decide
   rw[e,show(g:Int)*2^6=((64*g:Nat):Int) by omega];exact CY byO
  simp only[Int.cast_ofNat_Int]at hor;refine aA ?_;refine aT ?_;refine aC (Qx (lo:=lo) (g:=64*g+31) (n:=k+1) (a:=a+k) (m:=0) byO (by have:=hg.resolve_left id;omega) byO byO byO) ?_;rintro r H2 ⟨hx2,rfl⟩;have hl2:=hx2.1;have hstop:=fun h=>Cm (p:=p) (a:=a) (g:=g) hk h;have hgo:=fun h=>IX (p:=p) (a:=a) (g:=g) hk h;replace hstop:False\/_:=.inr hstop;replace hgo:False\/_:=.inr hgo;have ho2:=ho.mono hx2;generalize fu (64*g+31) (k+1) (a+k) 0=o at hstop hgo;refine aA ?_;change wpS cp lo _ _ _ (H2++[some (aQ o)]);refine aT ?_;refine nU (o:=o) ho2 byO byO ?_;intro w3 H3 hap;have hx3:=hap.ext (hx1.trans hx2) hb;obtain⟨b3,h1,h2,h3,h4⟩:=hap;have hs3:=hs.ext hx3;have hgs3:=hs3.g;rw[ev]at hgs3;have hl3:=hx3.1;refine aA ?_;by_cases hap:a+k<p.length
  ·have hd:decide (((a:Nat):Int)+(k:Nat)>=(p.length:Nat))=false:=decide_eq_false byO
   have hd':decide ((p.length:Nat)<=((a:Nat):Int)+(k:Nat))=false:=decide_eq_false byO;obtain⟨bb,oo,xs,hia,hgx,hxx⟩:=gN hs3.pl hap;rw[ev]at hia;have hby:=(p.getD (a+k) 0).toNat_lt;simp only[ap₀]at hia;refine an ?_;clear hd hd';replace hgo:=fun h=>hgo.resolve_left id ⟨hap,h⟩;replace hstop:=fun(h:¬ (32<=by' p (a+k)/\by' p (a+k)<=94))=>hstop.resolve_left id (fun h2=>h h2.2);unfold by' at hgo hstop;replace hxx:xs[oo]?=some (.int .u8 ((p.getD (a+k) 0).toNat:Nat)):=hxx;generalize (p.getD (a+k) 0).toNat=q at hxx hby hgo hstop;replace hstop:False\/_:=.inr hstop;replace hgo:False\/_:=.inr hgo;refine aA ?_;by_cases hq:32<=q/\q<=94
   ·obtain⟨hq1,hq2⟩:=hq
    have hd1:decide ((q:Int)<32)=false:=decide_eq_false byO;have hd2:decide ((q:Int)>94)=false:=decide_eq_false byO;have hd3:decide ((94:Int)<(q:Nat))=false:=decide_eq_false byO;have hand:IntKind.i64.wrap ((BitVec.ofInt IntKind.i64.bits ((q:Nat):Int) &&& BitVec.ofInt IntKind.i64.bits ((63:Nat):Int)).toNat:Int)=((q%64:Nat):Int):=by rw[vB byO byO,Pu]
    have hor2:IntKind.i64.wrap ((BitVec.ofInt IntKind.i64.bits ((64*g:Nat):Int) ||| BitVec.ofInt IntKind.i64.bits ((q%64:Nat):Int)).toNat:Int)=((64*g+q%64:Nat):Int):=by rw[G3 byO byO,Rp byO]
    simp only[Int.cast_ofNat_Int]at hand;refine an ?_;clear hd1 hd2 hd3;refine aA ?_;refine⟨hx3,_,b3,_,L++[o],⟨byO,h3⟩,⟨?_,by simp;omega,?_,byO⟩,aH ncM⟩
    ·rw[<-hL.resolve_left id,hgo.resolve_left id ⟨hq1,hq2⟩,ba₀];rfl
    ·have:=hg.resolve_left id
     rw[h6];omega
   ·have hd:(decide ((q:Int)<32) || decide ((q:Int)>94))=true:=by simp;omega
    have hfin:L++[o]=pJ p a:=by rw[<-hL.resolve_left id,hstop.resolve_left id hq]
    rw[hfin]at h3;clear hfin;refine bL ?_;refine aA ?_;refine aK ?_;exact⟨hx3,b3,byO,h3⟩
  ·have hd:decide (((a:Nat):Int)+(k:Nat)>=(p.length:Nat))=true:=decide_eq_true byO
   have hd':decide ((p.length:Nat)<=((a:Nat):Int)+(k:Nat))=true:=decide_eq_true byO;have hfin:L++[o]=pJ p a:=by rw[<-hL.resolve_left id,hstop.resolve_left id (fun h=>hap h.1)]
   rw[hfin]at h3;clear hfin;refine bL ?_;refine aA ?_;refine aK ?_;exact⟨hx3,b3,byO,h3⟩
 ·rintro S H1 ⟨hx1,w,b,g,L,⟨hb,ho⟩,⟨hL,hLk,hg,hak⟩,z,rfl⟩
  have hl1:=hx1.1;replace hLk:L.length<=4:=byO;replace hL:L++[fu g 4 (a+4) 18]=pJ p a:=hL;have hg3:g<16777216:=bd₀ hg (by decide);replace hL:False\/_:=.inr hL;replace hg:False\/_:=.inr hg;refine bF ?_;refine aC (Qx (lo:=lo) (g:=g) (n:=4) (a:=a+4) (m:=18) byO (hg.resolve_left id) byO byO byO) ?_;rintro r H2 ⟨hx2,rfl⟩;have hl2:=hx2.1;have ho2:=ho.mono hx2;generalize fu g 4 (a+4) 18=o at hL;refine aA ?_;change wpS cp lo _ _ _ (H2++[some (aQ o)]);refine aT ?_;refine nU (o:=o) ho2 byO byO ?_;intro w3 H3 hap;have hx3:=hap.ext (hx1.trans hx2) hb;obtain⟨b3,h1,h2,h3,h4⟩:=hap;rw[hL.resolve_left id]at h3;refine aA ?_;refine aK ?_;exact⟨hx3,b3,byO,h3⟩
end
section
variable {lo:Nat}{H:Heap}{sb cb:Nat}{v:Value}{p:List UInt8}{cs:List Nat}
theorem KS{o:Opt}(hs:SrH H sb cb v p cs)(ho:o.sz<=10/\o.run<=10000/\o.nx<=p.length/\o.md<19):Ev cp lo 177 [ptr sb,AS o] H (fun r H'=>Ext H H'/\r=aB (bP cs o)):=VT hs ho.1 ho.2.1 ho.2.2.1 ho.2.2.2
open XYe
theorem Tl{a:Nat}(hs:SrH H sb cb v p cs)(ha:a<p.length)(hlo:lo<=H.length):Ev cp lo 206 [ptr sb,aB a] H (fun r H'=>Ext H H'/\r=AS (vH p cs a)):=by
 have hi:=hs.hi;have hsl:=Heap.get_lt hs.g;obtain⟨ad,c,ev⟩:=hs.pl.len;refine stG rfl rfl ?_;unfold Lh;simp only[kB,aD];refine aA ?_;have hxb:Ext H (H++[some (aQ cC),some (aQ cC)]):=Ext.app _ _;have hg0:(H++[some (aQ cC),some (aQ cC)]).get H.length=some (aQ cC):=aF;have hg1:(H++[some (aQ cC),some (aQ cC)]).get (H.length+1)=some (aQ cC):=by rw[bC];rfl
 have hlc:(H++[some (aQ cC),some (aQ cC)]).length<=H.length+2/\H.length+2<=(H++[some (aQ cC),some (aQ cC)]).length:=by simp
 change wpS cp lo _ _ _ (H++[some (aQ cC),some (aQ cC)]);generalize H++[some (aQ cC),some (aQ cC)]=H0 at hxb hg0 hg1 hlc;have hxb0:=hxb.1;refine aS (fun k S H'=>((Ext H H'/\H'.get H.length=some (aQ cC))/\H'.get (H.length+1)=some (aQ (iA cs a k)))/\∃(z:Nat->Value),S=[ptr sb,aB a,ptr H.length,ptr (H.length+1),.int .i64 ((k+1:Nat):Nat),z 5,z 6,z 7,z 8,z 9,z 10,z 11]) (min (p.length-a) 1749) ⟨⟨⟨hxb,hg0⟩,hg1⟩,aH ncM⟩ ?_ ?_ ?_
 ·rintro k S H' hk ⟨⟨⟨hx,h0⟩,h1⟩,z,rfl⟩
  have hgs:=(hs.ext hx).g;rw[ev]at hgs;refine⟨decide (k<min (p.length-a) 1749),?_,by simp⟩;by_cases h:k+1<=p.length-a
  ·have hd:decide (((k+1:Nat):Int)<=(p.length:Nat)-(a:Nat))=true:=decide_eq_true byO
   by_cases h2:k+1<=1749
   ·rw[decide_eq_true byO]
    have hd2:decide (((k+1:Nat):Int)<=1749)=true:=decide_eq_true byO;simp(disch:=try exact dO)only[evB,xtr,Nat.reduceAdd,Nat.reduceBEq,Int.reduceToNat, *]
   ·rw[decide_eq_false byO]
    have hd2:decide (((k+1:Nat):Int)<=1749)=false:=decide_eq_false byO;simp(disch:=try exact dO)only[evB,xtr,Nat.reduceAdd,Nat.reduceBEq,Int.reduceToNat, *]
  ·rw[decide_eq_false byO]
   have hd:decide (((k+1:Nat):Int)<=(p.length:Nat)-(a:Nat))=false:=decide_eq_false byO;simp(disch:=try exact dO)only[evB,xtr,Nat.reduceAdd,Nat.reduceBEq,Int.reduceToNat, *]
 ·rintro k S H1 hk ⟨⟨⟨hx1,h0⟩,h1⟩,z,rfl⟩
  have hk1:k+1<=p.length-a:=byO;have hk2:k+1<=1749:=byO;clear hk;have hl1:=hx1.1;have hl11:=Heap.get_lt h1;refine aA ?_;change wpS cp lo _ _ _ (H1++[some (aQ ⟨231,k+1,0,2,k+1,a+(k+1),0⟩)]);have hxc:Ext H1 (H1++[some (aQ ⟨231,k+1,0,2,k+1,a+(k+1),0⟩)]):=Ext.app _ _;have hgc:(H1++[some (aQ ⟨231,k+1,0,2,k+1,a+(k+1),0⟩)]).get H1.length=some [aB 231,aB (k+1),aB 0,aB 2,aB (k+1),aB (a+(k+1)),aB 0]:=aF;have hlc2:(H1++[some (aQ ⟨231,k+1,0,2,k+1,a+(k+1),0⟩)]).length<=H1.length+1/\H1.length+1<=(H1++[some (aQ ⟨231,k+1,0,2,k+1,a+(k+1),0⟩)]).length:=by simp
  generalize H1++[some (aQ ⟨231,k+1,0,2,k+1,a+(k+1),0⟩)]=H2 at hxc hgc hlc2;refine ba (fun S' H'=>(Ext H1 H'/\H'.get H1.length=some (aQ (dC a (k+1))))/\∃(z:Nat->Value),S'=[ptr sb,aB a,ptr H.length,ptr (H.length+1),.int .i64 ((k+1:Nat):Nat),ptr H1.length,z 6,z 7,z 8,z 9,z 10,z 11]) ?_ ?_
  ·by_cases h250:k+1<250
   ·have hd:decide (((k+1:Nat):Int)>=250)=false:=decide_eq_false byO
    have hb:dC a (k+1)=⟨231,k+1,0,2,k+1,a+(k+1),0⟩:=by unfold dC;rw[if_pos h250]
    rw[hb];clear hb;refine an ?_
    ·(try simp only[aD])
     exact⟨⟨hxc,hgc⟩,aH ncM⟩
   ·have hd:decide (((k+1:Nat):Int)>=250)=true:=decide_eq_true byO
    have hb:dC a (k+1)=⟨231,249+(k+1)/250,(k+1)%250,3,k+1,a+(k+1),0⟩:=by unfold dC;rw[if_neg h250]
    rw[hb];clear hb;have eq1:((k+1:Nat):Int).tdiv 250=(((k+1)/250:Nat):Int):=by rw[Int.tdiv_eq_ediv_of_nonneg byO];omega
    have eq2:((k+1:Nat):Int).tmod 250=(((k+1)%250:Nat):Int):=by rw[Int.tmod_eq_emod_of_nonneg byO];omega
    have hq1:(k+1)/250<=10:=byO;have hq2:(k+1)%250<250:=byO;generalize k+1=n at *;generalize n/250=q1 at eq1 hq1;generalize n%250=q2 at eq2 hq2;refine bL ?_;clear hd;refine aA ?_;exact⟨⟨keepSet.ext (keepSet.ext hxc (Nat.le_refl _)) (Nat.le_refl _),aG (by simp;omega)⟩,aH ncM⟩
  ·rintro S' H3 ⟨⟨hx3,hgo⟩,z,rfl⟩
   have hok:=vG (N:=p.length) (at':=a) (n:=k+1) byO byO byO;have hx13:=hx1.trans hx3;have hbest:=hx3.get h1;have hz:=hx3.get h0;have hl3:=hx3.1;have hlo1:=Heap.get_lt hgo;by_cases hk0:k=0
   ·have hB:iA cs a (k+1)=dC a (k+1):=by subst hk0;rfl
    rw[hB];clear hB;generalize dC a (k+1)=o at hgo hok;generalize iA cs a k=bo at h1 hbest;have hd:decide (((k+1:Nat):Int)=1)=true:=decide_eq_true byO;replace hk0:k<=0:=byO;have hd2:decide (((k:Nat):Int)+1=1)=true:=decide_eq_true byO;(try simp only[aD]);refine aU (t:=false) aN dP e9 (fun h=>by cases h) (fun _=>?_);(try simp only[aD]);refine aU (t:=false) aN dP e9 (fun h=>by cases h) (fun _=>?_);(try simp only[aD]);refine bL ?_;clear hd hd2;refine aA ?_;refine⟨⟨⟨keepSet.ext hx13 byO,?_⟩,aG byO⟩,aH ncM⟩;rw[aI byO];exact hz
   ·have hB:iA cs a (k+1)=if bP cs (dC a (k+1))<bP cs (iA cs a k) then dC a (k+1) else iA cs a k:=by rw[iA,if_neg hk0]
    have hok2:=Ax (cs:=cs) (N:=p.length) (at':=a) (n:=k) byO byO byO;rw[hB];clear hB;generalize dC a (k+1)=o at hgo hok;generalize iA cs a k=bo at h1 hbest hok2;have hd:decide (((k+1:Nat):Int)=1)=false:=decide_eq_false byO;have hd2:decide (((k:Nat):Int)+1=1)=false:=decide_eq_false byO;have hs3:=hs.ext hx13;have o1:=hok.sz;have o2:=hok.run;have o3:=hok.nx;have o4:=hok.md;have b1:=hok2.sz;have b2:=hok2.run;have b3:=hok2.nx;have b4:=hok2.md;clear hok hok2;(try simp only[aD]);refine aU (t:=true) aN dP e9 (fun _=>⟨_,aN,?_⟩) (fun h=>by cases h);refine bS (KS (o:=o) hs3 byO) ?_;rintro r H4 ⟨hx4,rfl⟩;have hs4:=hs3.ext hx4;(try simp only[aD]);refine aU (t:=true) aN dP e9 (fun _=>⟨_,aN,?_⟩) (fun h=>by cases h);refine eF (KS (o:=bo) hs4 byO) ?_;rintro r H5 ⟨hx5,rfl⟩;have hx35:=hx4.trans hx5;have hgo5:=hx35.get hgo;have hbest5:=hx35.get hbest;have hz5:=hx35.get hz;have hl5:=hx35.1;clear hs3 hs4 hgo hbest hz;generalize bP cs o=t1;generalize bP cs bo=t2;(try simp only[aD]);by_cases ht:t1<t2
    ·have hdt:decide ((t1:Int)<(t2:Nat))=true:=decide_eq_true byO
     rw[if_pos ht];refine bL ?_;clear hdt;refine aA ?_;refine⟨⟨⟨keepSet.ext (hx13.trans hx35) byO,?_⟩,aG byO⟩,aH ncM⟩;rw[aI byO];exact hz5
    ·have hdt:decide ((t1:Int)<(t2:Nat))=false:=decide_eq_false byO
     rw[if_neg ht];refine aP ?_ ?_<;>intro h
     ·simp at h
     ·clear h hdt
      refine aA ?_;exact⟨⟨⟨hx13.trans hx35,hz5⟩,hbest5⟩,aH ncM⟩
 ·rintro S H1 ⟨⟨⟨hx1,h0⟩,h1⟩,z,rfl⟩
  have hl1:=hx1.1;have hll:=Heap.get_lt h0;have hb:vH p cs a=iA cs a (min (p.length-a) 1749):=rfl;rw[hb];generalize iA cs a (min (p.length-a) 1749)=o at h1;generalize min (p.length-a) 1749=m;refine aA ?_;refine aK ?_;exact⟨keepSet.ext hx1 (Nat.le_refl _),rfl⟩
end
section
variable {lo:Nat}{H:Heap}{sb cb:Nat}{v:Value}{p:List UInt8}{cs:List Nat}
theorem oG{l:List UInt8}{j k:Nat}:(l.drop j).getD k 0=l.getD (j+k) 0:=by
 simp[au₀,List.getElem?_drop]
theorem KL{l:List UInt8}{n:Nat}(h:SlU H v l)(hn:n<=l.length):∃v',(∀G,aJ (.sl 1 true false false) [v,.int .i64 (n:Nat)] G=some v')/\SlU H v' (l.drop n):=by
 rcases h with ⟨rfl,rfl⟩|⟨b,o,sp,cap,xs,rfl,h2,h3,h4,h5,h6⟩
 ·have:n=0:=by simpa using hn
  subst this;exact⟨.slice none 0 0,fun _=>rfl,.inl ⟨rfl,rfl⟩⟩
 ·have hd:(xs.drop (o+n)).take (l.length-n)=(l.drop n).map FC:=by
   rw[List.map_drop,<-h3,<-List.drop_drop,List.drop_take]
  rcases h5 with rfl|rfl
  ·refine⟨.slice (some ⟨b,if cap=n then o else o+n,none⟩) (l.length-n) (cap-n),?_,.inr ⟨b,_,none,cap-n,xs,by rw[List.length_drop],h2,?_,?_,.inl rfl,by rw[List.length_drop];omega⟩⟩
   ·intro G;rw[AI,EH byO byO]
    simp
   ·rw[List.length_drop]
    split
    ·have:l.length-n=0:=byO
     rw[this];have:l.drop n=[]:=List.drop_eq_nil_of_le byO;rw[this];simp
    ·exact hd
   ·rw[List.length_drop];split<;>omega
  ·refine⟨.slice (some ⟨b,o+n,some 1⟩) (l.length-n) (cap-n),?_,.inr ⟨b,_,some 1,cap-n,xs,by rw[List.length_drop],h2,by rw[List.length_drop];exact hd,by rw[List.length_drop];omega,.inr rfl,by rw[List.length_drop];omega⟩⟩
   intro G;rw[AH,EH byO byO];simp
theorem sH(a:Nat):(fk a).length=4:=rfl
theorem u7(p:List UInt8)(a:Nat):(kE p a).length<=1:=by unfold kE;split<;>simp
open XYe
theorem Tk{a:Nat}(hs:SrH H sb cb v p cs)(ha:a<=p.length)(hlo:lo<=H.length):Ev cp lo 194 [ptr sb,aB a] H (fun r H'=>Ext H H'/\∃b,H.length<=b/\OwnG lo 7 H' r b (cat aQ (qy p cs a))):=by
 have hi:=hs.hi;have hsl:=Heap.get_lt hs.g;have hgs:=hs.g;refine stG rfl rfl ?_;unfold L8;simp only[kB,aD];refine aA ?_;change wpS cp lo _ _ _ (H++[some (cat aQ (fk a))]);have hxb:Ext H (H++[some (cat aQ (fk a))]):=Ext.app _ _;have hg0:(H++[some (cat aQ (fk a))]).get H.length=some (cat aQ (fk a)):=aF;have hlc:(H++[some (cat aQ (fk a))]).length<=H.length+1/\H.length+1<=(H++[some (cat aQ (fk a))]).length:=by simp
 generalize H++[some (cat aQ (fk a))]=H0 at hxb hg0 hlc;have ho0:OwnG lo 7 H0 (.slice (some ⟨H.length,0,none⟩) 4 4) H.length (cat aQ (fk a)):=.inr ⟨hlo,4,byO,rfl,rfl,hg0⟩;have hs0:=hs.ext hxb;have hgs0:=hs0.g;obtain⟨v',ev0,hv0⟩:=KL hs.pl ha;obtain⟨av,cv,ew⟩:=hs.pl.len;rw[ew]at ev0 hgs0;have ev':=ev0 H0;have hv':=hv0.mono hxb;obtain⟨ad,c,ev⟩:=hv'.len;rw[ev]at ev';have hdl:(p.drop a).length=p.length-a:=List.length_drop;rw[hdl]at ev ev';rw[ev]at hv' hv0;clear hg0 hgs ev hs0 ev0;refine aA ?_;unfold qy;by_cases hap:a<p.length
 ·have hd:decide (((p.length-a:Nat):Int)=0)=false:=decide_eq_false byO
  rw[if_pos hap];refine an ?_;clear hd hgs0 ev';obtain⟨bb,oo,xs,hia,hgx,hxx⟩:=gN hv' (k:=0) byO;rw[oG,Nat.add_zero]at hxx;have hby:=(p.getD a 0).toNat_lt;have hP:kE p a=if a+2<=p.length/\jr (p.getD a 0).toNat=true/\jr (p.getD (a+1) 0).toNat=true then[⟨130+(10*((p.getD a 0).toNat-48)+(p.getD (a+1) 0).toNat-48),0,0,1,0,a+2,0⟩] else[]:=rfl
  replace hP:False\/_:=.inr hP;unfold by';replace hxx:xs[oo]?=some (.int .u8 ((p.getD a 0).toNat:Nat)):=hxx;obtain⟨q,hqe⟩:∃q,False\/(p.getD a 0).toNat=q:=⟨_,.inr rfl⟩;rw[hqe.resolve_left id]at hxx hby hP ⊢;have hia:aJ (LOp.iAddr 1) [Value.slice ad (p.length-a) c,Value.int .i64 0] H0=_:=hia;refine aA ?_;have hbO:eL q a=if q<128 then⟨q+1,0,0,1,0,a+1,0⟩ else⟨235,q-127,0,2,0,a+1,0⟩:=rfl
  have hM:∀{w H'},AppG lo 7 H0 H.length (cat aQ (fk a++[eL q a])) w H'->Ext H H'/\∃b,(H.length<=b/\b<H'.length)/\OwnG lo 7 H' w b (cat aQ (fk a++[eL q a])):=by
   intro w H' h;have hx:=h.ext hxb (Nat.le_refl _);obtain⟨b4,h1,h2,h3,h4⟩:=h;exact⟨hx,b4,byO,h3⟩
  refine ba (fun S' H'=>∃w,AppG lo 7 H0 H.length (cat aQ (fk a++[eL q a])) w H'/\∃(z:Nat->Value),S'=[ptr sb,aB a,z 2,w,.slice ad (p.length-a) c,.int .i64 (q:Nat),z 6,z 7,z 8,z 9,z 10,z 11,z 12,z 13,z 14,z 15,z 16,z 17,z 18,z 19,z 20,z 21,z 22,z 23,z 24]) ?_ ?_
  ·clear hM
   generalize eL q a=ob at hbO;by_cases h128:q<128
   ·have hd:decide ((q:Int)<128)=true:=decide_eq_true byO
    rw[if_pos h128]at hbO;subst hbO;refine bL ?_;clear hd;refine aA ?_;change wpS cp lo _ _ _ (H0++[some (aQ ⟨q+1,0,0,1,0,a+1,0⟩)]);refine aT ?_;refine nU (o:=⟨q+1,0,0,1,0,a+1,0⟩) ho0 byO (by rw[sH];omega) ?_;intro w3 H3 hap3;refine aA ?_;exact⟨_,hap3,aH ncM⟩
   ·have hd:decide ((q:Int)<128)=false:=decide_eq_false byO
    have h127:(q:Int)-127=((q-127:Nat):Int):=byO;rw[if_neg h128]at hbO;subst hbO;refine aP ?_ ?_<;>intro h
    ·simp at h
    ·clear h hd
     refine aA ?_;change wpS cp lo _ _ _ (H0++[some (aQ ⟨235,q-127,0,2,0,a+1,0⟩)]);refine aT ?_;refine nU (o:=⟨235,q-127,0,2,0,a+1,0⟩) ho0 byO (by rw[sH];omega) ?_;intro w3 H3 hap3;refine aA ?_;exact⟨_,hap3,aH ncM⟩
  ·rintro S' H1 ⟨w,hap1,z,rfl⟩
   obtain⟨hx1,b1,⟨hb1,hb1l⟩,ho1⟩:=hM hap1;clear hM hbO hap1 hia hgx hxx;have hl1:=hx1.1;obtain⟨bb,oo,xs,hia,hgx,hxx⟩:=gN (hv0.mono hx1) (k:=0) byO;rw[oG,Nat.add_zero]at hxx;replace hxx:xs[oo]?=some (.int .u8 ((p.getD a 0).toNat:Nat)):=hxx;rw[hqe.resolve_left id]at hxx;replace hia:aJ (LOp.iAddr 1) [Value.slice ad (p.length-a) c,Value.int .i64 0] H1=_:=hia;have hL1:(fk a++[eL q a]).length=5:=rfl;replace hL1:(fk a++[eL q a]).length<=5:=byO;obtain⟨L1,hLe⟩:∃L1,False\/fk a++[eL q a]=L1:=⟨_,.inr rfl⟩;rw[hLe.resolve_left id]at ho1 hL1;rw[lI];refine ba (fun S' H'=>Ext H H'/\∃w b,(H.length<=b/\OwnG lo 7 H' w b (cat aQ (L1++kE p a)))/\∃(z:Nat->Value),S'=[ptr sb,aB a,z 2,w,z 4,z 5,z 6,z 7,z 8,z 9,z 10,z 11,z 12,z 13,z 14,z 15,z 16,z 17,z 18,z 19,z 20,z 21,z 22,z 23,z 24]) ?_ ?_
   ·by_cases h2:a+2<=p.length
    ·have hd2:decide (((p.length-a:Nat):Int)>=2)=true:=decide_eq_true byO
     have hd2':decide ((2:Int)<=((p.length-a:Nat):Nat))=true:=decide_eq_true byO;(try simp only[aD]);refine aU (t:=true) aN dP e9 (fun _=>⟨_,aN,?_⟩) (fun h=>by cases h);refine aC (RI (lo:=lo) (k:=q) hby byO) ?_;rintro r H2 ⟨rfl,hx2⟩;have hx12:=hx1.trans hx2;have ho2:=ho1.mono hx2;have hl2:=hx2.1;clear hia hgx hxx;obtain⟨bb,oo,xs,hia,hgx,hxx⟩:=gN (hv0.mono hx12) (k:=1) byO;rw[oG]at hxx;have hby2:=(p.getD (a+1) 0).toNat_lt;replace hxx:xs[oo]?=some (.int .u8 ((p.getD (a+1) 0).toNat:Nat)):=hxx;replace hia:aJ (LOp.iAddr 1) [Value.slice ad (p.length-a) c,Value.int .i64 1] H2=_:=hia;obtain⟨q2,hq2e⟩:∃q2,False\/(p.getD (a+1) 0).toNat=q2:=⟨_,.inr rfl⟩;rw[hq2e.resolve_left id]at hxx hby2 hP;by_cases hdq:jr q=true
     ·rw[hdq]
      (try simp only[aD]);refine aU (t:=true) aN dP e9 (fun _=>⟨_,aN,?_⟩) (fun h=>by cases h);refine aC (RI (lo:=lo) (k:=q2) hby2 byO) ?_;rintro r H3 ⟨rfl,hx3⟩;have hx13:=hx12.trans hx3;have ho3:=ho2.mono hx3;have hl3:=hx3.1;have hgx3:=hx3.get hgx;clear hia hgx hxx;obtain⟨bb,oo,xs,hia,hgx,hxx⟩:=gN (hv0.mono hx13) (k:=1) byO;rw[oG]at hxx;replace hxx:xs[oo]?=some (.int .u8 ((p.getD (a+1) 0).toNat:Nat)):=hxx;rw[hq2e.resolve_left id]at hxx;replace hia:aJ (LOp.iAddr 1) [Value.slice ad (p.length-a) c,Value.int .i64 1] H3=_:=hia;by_cases hdq2:jr q2=true
      ·have hr1:=dF.1 hdq
       have hr2:=dF.1 hdq2;replace hP:=hP.resolve_left id;rw[if_pos ⟨h2,hdq,hdq2⟩]at hP;rw[hP,hdq2];clear hP;have e6:10*((q:Int)-48)+(q2:Int)-48=((10*(q-48)+q2-48:Nat):Int):=byO;have hm:10*(q-48)+q2-48<=99:=byO;generalize 10*(q-48)+q2-48=m at e6 hm;clear hdq hdq2;(try simp only[aD]);refine bL ?_;refine aA ?_;change wpS cp lo _ _ _ (H3++[some (aQ ⟨130+m,0,0,1,0,a+2,0⟩)]);refine aT ?_;refine nU (o:=⟨130+m,0,0,1,0,a+2,0⟩) ho3 byO byO ?_;intro w4 H4 hap4;have hx4:=hap4.ext hx13 hb1;obtain⟨b4,k1,k2,k3,k4⟩:=hap4;refine aA ?_;exact⟨hx4,_,b4,⟨byO,k3⟩,aH ncM⟩
      ·replace hP:=hP.resolve_left id
       rw[if_neg (fun h=>hdq2 h.2.2)]at hP;rw[hP,Bool.eq_false_iff.2 hdq2,List.append_nil];clear hP hdq hdq2;(try simp only[aD]);refine an ?_
       ·(try simp only[aD])
        exact⟨hx13,_,b1,⟨hb1,ho3⟩,aH ncM⟩
     ·replace hP:=hP.resolve_left id
      rw[if_neg (fun h=>hdq h.2.1)]at hP;rw[hP,Bool.eq_false_iff.2 hdq,List.append_nil];clear hP hdq;(try simp only[aD]);refine aU (t:=false) aN dP e9 (fun h=>by cases h) (fun _=>?_);(try simp only[aD]);refine an ?_
      ·(try simp only[aD])
       exact⟨hx12,_,b1,⟨hb1,ho2⟩,aH ncM⟩
    ·have hd2:decide (((p.length-a:Nat):Int)>=2)=false:=decide_eq_false byO
     have hd2':decide ((2:Int)<=((p.length-a:Nat):Nat))=false:=decide_eq_false byO;replace hP:=hP.resolve_left id;rw[if_neg (fun h=>h2 h.1)]at hP;rw[hP,List.append_nil];clear hP;(try simp only[aD]);refine aU (t:=false) aN dP e9 (fun h=>by cases h) (fun _=>?_);(try simp only[aD]);refine aU (t:=false) aN dP e9 (fun h=>by cases h) (fun _=>?_);(try simp only[aD]);refine an ?_
     ·(try simp only[aD])
      exact⟨hx1,_,b1,⟨hb1,ho1⟩,aH ncM⟩
   ·rintro S' H2 ⟨hx2,w,b,⟨hb,ho⟩,z,rfl⟩
    have hpl:=u7 p a;have hl2:=hx2.1;rw[<-ba₀,<-ba₀,hLe.resolve_left id];generalize kE p a=PL at ho hpl;refine bF ?_;refine aC (Tl (lo:=lo) (hs.ext hx2) hap byO) ?_;rintro r H3 ⟨hx3,rfl⟩;have ho3:=ho.mono hx3;have hl3:=hx3.1;generalize vH p cs a=o;refine aA ?_;change wpS cp lo _ _ _ (H3++[some (aQ o)]);refine aT ?_;refine nU (o:=o) ho3 byO (by simp;omega) ?_;intro w4 H4 hap4;have hx4:=hap4.ext (hx2.trans hx3) hb;obtain⟨b4,k1,k2,k3,k4⟩:=hap4;refine aA ?_;refine aK ?_;exact⟨hx4,b4,byO,k3⟩
 ·have hd:decide (((p.length-a:Nat):Int)=0)=true:=decide_eq_true byO
  rw[if_neg hap,List.append_nil];refine bL ?_;refine aA ?_;refine aK ?_;exact⟨hxb,_,Nat.le_refl _,ho0⟩
end
end Go.Proofs.YtmnlgdpdgjbfgaaGreat
