/- Lemmas. -/
import Derived.Test.YtmnlgdpdgjbfgaaGreatL23
set_option linter.all false
namespace Go.Proofs.YtmnlgdpdgjbfgaaGreat
open Go.Abs
variable{H:Heap}{p:List UInt8}
set_option maxRecDepth 20000
theorem fX{v:Value}{l:List UInt8}{k:Nat}(h:SlU H v l)(hk:k<l.length):∃b o xs,aH (.iAddr 1) [v,.int .i64 (k:Nat)] H=some (.pointer (some ⟨b,o,none⟩))/\H.get b=some xs/\xs[o]?=some (BN (l.getD k 0)):=by
 obtain⟨b,o,sp,cap,xs,rfl,h2,h3,h4⟩:=h.els 0 byO;refine⟨b,o+k,xs,?_,h2,h3 k hk⟩;rw[lB byO byO];simp
theorem Kn{a b:Nat}(ha:a<256)(hb:b<256):IntKind.u8.wrap ((BitVec.ofInt IntKind.u8.bits (a:Int) &&& BitVec.ofInt IntKind.u8.bits (b:Int)).toNat:Int)=((a &&& b:Nat):Int):=by
 have e:(BitVec.ofInt IntKind.u8.bits (a:Int) &&& BitVec.ofInt IntKind.u8.bits (b:Int)).toNat=a &&& b:=by
  show(BitVec.ofInt 8 (a:Int) &&& BitVec.ofInt 8 (b:Int)).toNat=a &&& b;rw[show BitVec.ofInt 8 (a:Int)=BitVec.ofNat 8 a from BitVec.ofInt_natCast 8 a,show BitVec.ofInt 8 (b:Int)=BitVec.ofNat 8 b from BitVec.ofInt_natCast 8 b,BitVec.toNat_and,BitVec.toNat_ofNat,BitVec.toNat_ofNat,Nat.mod_eq_of_lt byO,Nat.mod_eq_of_lt byO]
 rw[e];have:a &&& b<=a:=Nat.and_le_left;exact An byO byO
section
variable {lo:Nat}{H:Heap}{sb cb:Nat}{v:Value}{p:List UInt8}{cs:List Nat}
open XYe
theorem M0{a s:Nat}{u lower:Bool}(hs:SrH H sb cb v p cs)(ha:a<=p.length)(hs3:s<=3)(hlo:lo<=H.length):Ev cp lo 207 [ptr sb,.agg #[aA a,aA s,.bool u],.bool lower] H (fun r H'=>Ext H H'/\∃b,H.length<=b/\OwnG lo 4 H' r b (cat mvC (iX p a s u lower))):=by
 have hi:=hs.hi;refine stG rfl rfl ?_;unfold Jg;simp only[kB,aC];refine aL ?_;have hxb:Ext H (H++[some [aA a,aA s,.bool u]]):=Ext.app _ _;have hgb:(H++[some [aA a,aA s,.bool u]]).get H.length=some [aA a,aA s,.bool u]:=aG;generalize H++[some [aA a,aA s,.bool u]]=Hb at hxb hgb;have hlb:=hxb.1;refine bz (fun S' H'=>Ext Hb H'/\∃w b,Hb.length<=b/\OwnG lo 4 H' w b (cat mvC (mvA a s u))/\∃(z:Nat->Value),S'=[ptr sb,z 1,.bool lower,ptr H.length,z 4,w,z 6,z 7,z 8,z 9,z 10,z 11,z 12,z 13,z 14,z 15,z 16,z 17,z 18,z 19,z 20]) ?_ ?_
 ·by_cases h0:s=0
  ·have hA:mvA a s u=mv3 a u 3:=by unfold mvA;rw[if_pos h0]
   rw[hA];clear hA;have hd:decide (((s:Nat):Int)=0)=true:=decide_eq_true byO;replace h0:s<=0:=byO;refine bQ ?_ ?_<;>intro h
   ·clear h hd
    refine aL ?_;refine aa (fun k S H'=>Ext Hb H'/\∃w b,Hb.length<=b/\OwnG lo 4 H' w b (cat mvC (mv3 a u k))/\∃(z:Nat->Value),S=[ptr sb,z 1,.bool lower,ptr H.length,z 4,w,z 6,z 7,z 8,z 9,.int .i64 (k:Nat),z 11,z 12,z 13,z 14,z 15,z 16,z 17,z 18,z 19,z 20]) 3 ⟨Ext.refl _,_,Hb.length,Nat.le_refl _,OwnG.nil byO,aJ rfl⟩ ?_ ?_ ?_
    ·rintro k S H' hk ⟨hx,w,b,hb,ho,z,rfl⟩
     exact⟨decide ((k:Int)<3),by simp(disch:=try exact dO)only[evB,xtr,Nat.reduceAdd,Nat.reduceBEq, *],by simp;omega⟩
    ·rintro k S H' hk ⟨hx,w,b,hb,ho,z,rfl⟩
     have hg:=hx.get hgb;have hl1:=hx.1;refine aL ?_;refine bY ?_;have hxa:Ext H' (H'++[some (mvC ⟨k,a,k+1,u⟩)]):=Ext.app _ _;refine Ko (enc:=mvC) (r:=⟨k,a,k+1,u⟩) byO byO gw ud (ho.mono hxa) (hx.trans hxa) hb byO (by simp[mv3];omega) aG ?_;intro v' b' H2 ho2 hx2 hb2 hl2;rw[<-EU]at ho2;refine aL ?_;exact⟨hx2,_,_,hb2,ho2,aJ ncM⟩
    ·rintro S H' ⟨hx,w,b,hb,ho,z,rfl⟩
     (try simp only[aC]);exact⟨hx,_,_,hb,ho,aJ rfl⟩
   ·simp at h
  ·have hA:mvA a s u=[]:=by unfold mvA;rw[if_neg h0]
   rw[hA];clear hA;have hd:decide (((s:Nat):Int)=0)=false:=decide_eq_false byO;refine bQ ?_ ?_<;>intro h
   ·simp at h
   ·(try simp only[aC])
    exact⟨Ext.refl _,_,Hb.length,Nat.le_refl _,OwnG.nil byO,aJ rfl⟩
 ·rintro S' H1 ⟨hx1,w,b,hb,ho,z,rfl⟩
  have hg1:=hx1.get hgb;have hs1:=hs.ext (hxb.trans hx1);have hgs:=hs1.g;have hl1:=hx1.1;obtain⟨ad,c,ev⟩:=hs.pl.len;rw[ev]at hgs;(try simp only[aC]);refine bz (fun S' H'=>Ext Hb H'/\∃w b,Hb.length<=b/\OwnG lo 4 H' w b (cat mvC (mvA a s u++mvB p a s u lower))/\∃(z:Nat->Value),S'=[ptr sb,z 1,.bool lower,ptr H.length,z 4,w,z 6,z 7,z 8,z 9,z 10,z 11,z 12,z 13,z 14,z 15,z 16,z 17,z 18,z 19,z 20]) ?_ ?_
  ·by_cases hap:a<p.length
   ·obtain⟨bb,oo,xs,hia,hgx,hxx⟩:=fX hs1.pl hap
    rw[ev]at hia;clear ev;have hd:decide (((a:Nat):Int)<(p.length:Nat))=true:=decide_eq_true byO;refine bQ ?_ ?_<;>intro h
    ·clear h hd
     have hby:=(p.getD a 0).toNat_lt;have hand:=Kn (a:=(p.getD a 0).toNat) (b:=127) hby byO;rw[show(p.getD a 0).toNat &&& 127=(p.getD a 0).toNat%128 from Nat.and_two_pow_sub_one_eq_mod _ 7]at hand;have hB:mvB p a s u lower=if (cQ lower (by' p a%128)).1=s/\u=decide (128<=by' p a) then[⟨(cQ lower (by' p a%128)).2,a+1,0,false⟩] else[]:=by
      unfold mvB;simp only[hap,true_and]
     rw[hB];clear hB;unfold by';generalize p.getD a 0=d at hxx hby hand;replace hxx:xs[oo]?=some (.int .u8 (d.toNat:Nat)):=hxx;generalize d.toNat=q at hxx hby hand;simp only[Int.cast_ofNat_Int]at hand;refine aL ?_;refine bY ?_;refine aB (NB (lo:=lo) (b:=lower) (k:=q%128) byO byO) ?_;rintro r H2 ⟨rfl,hx2⟩;have hg2:=hx2.get hg1;have hle:=om lower (q%128) byO;generalize (cQ lower (q%128)).1=ss at hle;generalize (cQ lower (q%128)).2=vv at hle;have hl2:=hx2.1;have e8:decide ((q:Int)>=128)=decide (128<=q):=by
      by_cases h:128<=q
      ·rw[decide_eq_true h,decide_eq_true byO]
      ·rw[decide_eq_false h,decide_eq_false byO]
     generalize decide (128<=q)=big at e8;refine aL ?_;by_cases hc:ss=s/\u=big
     ·obtain⟨rfl,rfl⟩:=hc
      simp only[and_self,if_true];refine bQ ?_ ?_<;>intro h
      ·clear h
       refine aL ?_;refine bY ?_;have hxa:Ext H2 (H2++[some (mvC ⟨vv,a+1,0,false⟩)]):=Ext.app _ _;refine Ko (enc:=mvC) (r:=⟨vv,a+1,0,false⟩) byO byO gw ud ((ho.mono hx2).mono hxa) ((hx1.trans hx2).trans hxa) hb byO (by unfold mvA mv3;split<;>simp) aG ?_;intro v' b' H3 ho3 hx3 hb3 hl3;refine aL ?_;exact⟨hx3,_,_,hb3,ho3,aJ rfl⟩
      ·simp at h
     ·rw[if_neg hc]
      have hcc:(decide ((ss:Int)=(s:Nat))&&(u==big))=false:=by
       by_cases h1:ss=s
       ·have:¬ u=big:=fun h2=>hc ⟨h1,h2⟩
        cases u<;>cases big<;>simp_all
       ·rw[decide_eq_false byO];rfl
      refine bQ ?_ ?_<;>intro h
      ·exfalso
       have e:∀x:Bool,(x != false)=x:=by decide
       rw[e,hcc]at h;cases h
      ·(try simp only[aC])
       exact⟨hx1.trans hx2,_,_,hb,by rw[List.append_nil];exact ho.mono hx2,aJ rfl⟩
    ·simp at h
   ·have hB:mvB p a s u lower=[]:=by unfold mvB;rw[if_neg (fun h=>hap h.1)]
    have hd:decide (((a:Nat):Int)<(p.length:Nat))=false:=decide_eq_false byO;rw[hB];clear hB ev;refine bQ ?_ ?_<;>intro h
    ·simp at h
    ·(try simp only[aC])
     exact⟨hx1,_,_,hb,by rw[List.append_nil];exact ho,aJ rfl⟩
  ·rintro S' H2 ⟨hx2,w,b,hb,ho,z,rfl⟩
   have hg2:=hx2.get hgb;have hl2:=hx2.1;(try simp only[aC]);refine bz (fun S' H'=>Ext Hb H'/\∃w b,Hb.length<=b/\OwnG lo 4 H' w b (cat mvC (iX p a s u lower))/\∃(z:Nat->Value),S'=[ptr sb,z 1,.bool lower,ptr H.length,z 4,w,z 6,z 7,z 8,z 9,z 10,z 11,z 12,z 13,z 14,z 15,z 16,z 17,z 18,z 19,z 20]) ?_ ?_
   ·unfold iX
    by_cases hc:s=2/\u=false
    ·have hD:mvD a s u=[⟨30,a,0,true⟩]:=by unfold mvD;rw[if_pos hc]
     obtain⟨h2,rfl⟩:=hc;rw[hD];clear hD;have hd:decide (((s:Nat):Int)=2)=true:=decide_eq_true byO;replace h2:s<=2/\2<=s:=byO;refine bQ ?_ ?_<;>intro h
     ·clear h hd
      refine aL ?_;refine bY ?_;have hxa:Ext H2 (H2++[some (mvC ⟨30,a,0,true⟩)]):=Ext.app _ _;refine Ko (enc:=mvC) (r:=⟨30,a,0,true⟩) byO byO gw ud (ho.mono hxa) (hx2.trans hxa) hb byO (by unfold mvA mvB mv3;split<;>split<;>simp) aG ?_;intro v' b' H3 ho3 hx3 hb3 hl3;refine aL ?_;exact⟨hx3,_,_,hb3,ho3,aJ rfl⟩
     ·simp at h
    ·have hD:mvD a s u=[]:=by unfold mvD;rw[if_neg hc]
     rw[hD,List.append_nil];clear hD;have hcc:(decide (((s:Nat):Int)=2)&&!u)=false:=by
      by_cases h1:s=2
      ·have:¬ u=false:=fun h2=>hc ⟨h1,h2⟩
       cases u<;>simp_all
      ·rw[decide_eq_false byO];rfl
     refine bQ ?_ ?_<;>intro h
     ·exfalso;first|(rw[hcc]at h;cases h)|cases h
     ·(try simp only[aC])
      exact⟨hx2,_,_,hb,ho,aJ rfl⟩
   ·rintro S' H3 ⟨hx3,w,b,hb,ho,z,rfl⟩
    refine aL ?_;refine bU ?_;exact⟨hxb.trans hx3,b,byO,ho⟩
end
theorem OwnG.keep{lo n b b':Nat}{H H':Heap}{v:Value}{X:List Value}(h:OwnG lo n H v b X)(e:Keep b' H H')(hne:b≠b'):OwnG lo n H' v b X:=by
 rcases h with h|⟨h1,k,h2,h3,h4,h5⟩
 ·exact .inl (h.keep e hne)
 ·exact .inr ⟨h1,k,h2,h3,h4,e.get h5 hne⟩
theorem an{b b':Nat}{H H1 H2:Heap}(h:Keep b H H1)(hb:b'=b\/H.length<=b')(h2:Keep b' H1 H2):Keep b H H2:=
 ⟨Nat.le_trans h.len h2.len,fun i hi hne=>by rw[h2.eq i (bc₀ hi h.len) byO,h.eq i hi hne]⟩
theorem Ext.keep{b:Nat}{H H1:Heap}(h:Ext H H1):Keep b H H1:=⟨h.1,fun i hi _=>h.2 i hi⟩
def AppG(lo n:Nat)(G:Heap)(b:Nat)(X:List Value)(w:Value)(H':Heap):Prop:=∃b',(b'=b\/G.length<=b')/\b'<H'.length/\OwnG lo n H' w b' X/\Keep b G H'
theorem AppG.self{lo n b:Nat}{G:Heap}{w:Value}{X:List Value}(h:OwnG lo n G w b X)(hb:b<G.length):AppG lo n G b X w G:=⟨b,.inl rfl,hb,h,Ext.keep (Ext.refl _)⟩
theorem AppG.trans{lo n b b':Nat}{G H1 G2 H2:Heap}{w:Value}{X:List Value}(hk:Keep b G H1)(hb:b'=b\/G.length<=b')(hx:Ext H1 G2)(h:AppG lo n G2 b' X w H2):AppG lo n G b X w H2:=by
 obtain⟨b2,h1,h2,h3,h4⟩:=h;have l1:=hk.len;have l2:=hx.1;exact⟨b2,byO,h2,h3,an hk hb (an (Ext.keep hx) (.inl rfl) h4)⟩
theorem AppG.ext{lo n b:Nat}{A G H1:Heap}{w:Value}{X:List Value}(h:AppG lo n G b X w H1)(e:Ext A G)(hb:A.length<=b):Ext A H1:=by
 obtain⟨b2,h1,h2,h3,h4⟩:=h;exact h4.ext e hb
section
variable {α:Type}{enc:α->List Value}{n:Nat}
theorem Kp{cp:FuncId->Option CF}{lo:Nat}{z:List Value}{v:Value}{b t:Nat}{sp:Option Nat}{m:Nat}{L:List α}{r:α}{R:Value->Heap->Prop}(hn:0<n)(hn2:n<=100)(he:∀x,(enc x).length=n)(h1:∀x,oneCells (enc x)=true)(ho:OwnG lo n H v b (cat enc L))(hlo:lo<=H.length)(hbig:L.length<=10000000)(ht:H.get t=some (enc r))
  (k:∀v' H',AppG lo n H b (cat enc (L++[r])) v' H'->R v' H'):wpH cp lo (.app n z) [v,.slice (some ⟨t,0,sp⟩) 1 m] H R:=by
 have hcl:=jv he L;have hcb:(cat enc L).length<=1000000000:=by
  rw[hcl];exact Nat.le_trans (Nat.mul_le_mul hbig hn2) (by decide)
 have hl1:(enc r).length=n:=he r;rcases ho with ho|⟨hb,q,hq0,hq,rfl,hg⟩
 ·refine mD ho byO hn byO byO ht byO (c:=enc r) (by rw[List.drop_zero,List.take_of_length_le byO]) (h1 r) ?_
  intro v' H' ho' hk hl';refine k v' H' ⟨H.length,.inr (Nat.le_refl _),byO,.inl ?_,hk⟩;rw[jA];simpa[cat]using ho'
 ·have e1:H.cells t 0 (1*n)=some (enc r):=by rw[cells_get ht byO,List.drop_zero,List.take_of_length_le byO]
  have e2:H.cells b 0 (q*n)=some (cat enc L):=by rw[cells_get hg byO,List.drop_zero,List.take_of_length_le byO]
  have hq1:q<=(cat enc L).length:=by rw[<-hq];exact Nat.le_mul_of_pos_right q hn
  simp only[wpH,cL,hsem,e1,ao₀,h1 r,if_true,aU];rw[if_neg byO,if_neg (by show ¬ bh<_;unfold bh;omega),e2];simp only[Option.map_some];refine k _ _ ⟨H.length,.inr (Nat.le_refl _),by simp,.inl ⟨byO,.inr ⟨q+1,byO,?_,rfl,?_⟩⟩,Ext.keep (Ext.app _ _)⟩
  ·rw[jA,as₀,<-hq,Nat.succ_mul];simp[cat,hl1]
  ·rw[aG,jA];simp[cat]
end
theorem ek{α β:Type}{f:α->List β}{c:Nat}:∀{l:List α},(∀x ∈ l,(f x).length<=c)->(l.flatMap f).length<=l.length*c
 | [],h=>by simp
 | x::l,h=>by
  rw[List.flatMap_cons,as₀,ak₀,Nat.succ_mul];have:=ek (l:=l) (fun y hy=>h y (List.mem_cons_of_mem _ hy));have:=h x (by simp);omega
theorem xW{first:Nat}{u v:Mv}{L:List Mv}:(pb first u v L).length=L.length:=by simp[pb]
theorem xV{first:Nat}{lower:Bool}{u:Mv}{L:List Mv}:(sI p first lower u L).length<=L.length*5:=ek fun v _=>by rw[xW];exact iY _ _ _ _ _
theorem sH{first:Nat}{lower:Bool}{L:List Mv}:(sf p first lower L).length<=L.length*25:=ek fun u _=>by
 have:=xV (p:=p) (first:=first) (lower:=lower) (u:=u) (L:=iX p u.a u.s u.u lower);have:=iY p u.a u.s u.u lower;omega
section
variable {lo:Nat}{H:Heap}{sb cb:Nat}{v:Value}{p:List UInt8}{cs:List Nat}
open XYe
theorem Kh{a st first:Nat}{lower:Bool}(hs:SrH H sb cb v p cs)(ha:a<=p.length)(hst:st<8)(hf:first<=9)(hlo:lo<=H.length):Ev cp lo 195 [ptr sb,aA a,aA st,aA first,.bool lower] H (fun r H'=>Ext H H'/\∃b,H.length<=b/\OwnG lo 7 H' r b (cat aM (im p a st first lower))):=by
 have hi:=hs.hi;have hmod:(st:Int).tmod 4=((st%4:Nat):Int):=by rw[Int.tmod_eq_emod_of_nonneg byO];omega
 have hge:decide ((4:Int)<=(st:Nat))=decide (4<=st):=by
  by_cases h:4<=st
  ·rw[decide_eq_true h,decide_eq_true byO]
  ·rw[decide_eq_false h,decide_eq_false byO]
 have hst4:st%4<4:=Nat.mod_lt _ (by decide);unfold im;generalize st%4=s at hmod hst4;generalize decide (4<=st)=u at hge;refine stG rfl rfl ?_;unfold J8;simp only[kB,aC];refine aL ?_;clear hge hmod;have hxb:Ext H (H++[some (aM (eR a)),some [aA a,aA s,.bool u]]):=Ext.app _ _;have hg0:(H++[some (aM (eR a)),some [aA a,aA s,.bool u]]).get H.length=some (aM (eR a)):=aG;have hg1:(H++[some (aM (eR a)),some [aA a,aA s,.bool u]]).get (H.length+1)=some [aA a,aA s,.bool u]:=by rw[bL];rfl
 have hl0:(H++[some (aM (eR a)),some [aA a,aA s,.bool u]]).length=H.length+2:=by simp
 have hl0':(H++[some (aM (eR a)),some [aA a,aA s,.bool u]]).length<=H.length+2/\H.length+2<=(H++[some (aM (eR a)),some [aA a,aA s,.bool u]]).length:=byO;clear hl0;change wpS cp lo _ _ _ (H++[some (aM (eR a)),some [aA a,aA s,.bool u]]);generalize H++[some (aM (eR a)),some [aA a,aA s,.bool u]]=H0 at hxb hg0 hg1 hl0';have ho0:OwnG lo 7 H0 (.slice (some ⟨H.length,0,none⟩) 1 1) H.length (cat aM [eR a]):=.inr ⟨hlo,1,byO,rfl,rfl,hg0⟩;refine bY ?_;refine aB (M0 (hs.ext hxb) ha byO byO) ?_;rintro mu H1 ⟨hx1,bu,hbu,hoU⟩;have hUl:=iY p a s u lower;have hUok:=lV (s:=s) (u:=u) (lower:=lower) ha;generalize iX p a s u lower=U at hoU hUl hUok;obtain⟨au,rfl⟩:=hoU.len byO gw;replace ho0:=ho0.mono hx1;have hx01:=hxb.trans hx1;have hl1:=hx1.1;clear hg0 hg1 hxb;refine aL ?_;refine aa (fun k S H'=>∃w,AppG lo 7 H1 H.length (cat aM (eR a::sf p first lower (U.take k))) w H'/\∃(z:Nat->Value),S=[ptr sb,aA a,z 2,aA first,.bool lower,z 5,w,z 7,z 8,z 9,z 10,z 11,z 12,z 13,.slice au U.length U.length,.int .i64 (U.length:Nat),.int .i64 (k:Nat),z 17,z 18,z 19,z 20,z 21,z 22,z 23,z 24,z 25,z 26,z 27,z 28,z 29]) U.length ⟨_,AppG.self ho0 byO,aJ ncM⟩ ?_ ?_ ?_
 ·rintro k S H' hk ⟨w,hap,z,rfl⟩
  exact⟨decide ((k:Int)<(U.length:Nat)),by simp(disch:=try exact dO)only[evB,xtr,Nat.reduceAdd,Nat.reduceBEq, *],by simp⟩
 ·rintro k S H2 hk ⟨w,hap,z,rfl⟩
  obtain⟨b2,hb2,hb2l,ho2,hk2⟩:=hap;have hx2:=hk2.ext hx01 (Nat.le_refl _);have hU2:=hoU.keep hk2 byO;obtain⟨p2,o2,X2,i2,g2,l2,e2⟩:=hU2.at byO gw hk;have hokU:=hUok _ (List.getElem_mem hk);have hsplit:=kE (fun u=>sI p first lower u (iX p u.a u.s u.u lower)) U k hk;change sf p first lower (U.take (k+1))=sf p first lower (U.take k)++_ at hsplit
  have hTl:=sH (p:=p) (first:=first) (lower:=lower) (L:=U.take k);have hTk:(U.take k).length=k:=List.length_take_of_le byO;rw[hsplit];clear hsplit;generalize sf p first lower (U.take k)=T1 at ho2 hTl
  generalize U[k]=um at e2 hokU;have hl2:=hk2.len;refine aL ?_;change wpS cp lo _ _ _ (H2++[some (mvC um)]);have hxc:Ext H2 (H2++[some (mvC um)]):=Ext.app _ _;have hgu:(H2++[some (mvC um)]).get H2.length=some [aA um.v,aA um.a,aA um.s,.bool um.u]:=aG;have hlc:(H2++[some (mvC um)]).length<=H2.length+1/\H2.length+1<=(H2++[some (mvC um)]).length:=by simp
  generalize H2++[some (mvC um)]=H3 at hxc hgu hlc;obtain⟨hv1,hv2,hv3,hv4⟩:=hokU;clear g2 l2 e2 i2 hU2;refine bY ?_;refine aB (M0 (hs.ext (hx2.trans hxc)) hv3 hv4 byO) ?_;rintro mv H4 ⟨hx4,bv,hbv,hoV⟩;have hVl:=iY p um.a um.s um.u lower;have hVok:=lV (s:=um.s) (u:=um.u) (lower:=lower) hv3;generalize iX p um.a um.s um.u lower=V at hoV hVl hVok;obtain⟨av,rfl⟩:=hoV.len byO gw;have ho4:=ho2.mono (hxc.trans hx4);have hx24:=hxc.trans hx4;have hgu4:=hx4.get hgu;have hl4:=hx4.1;have hx04:=hx2.trans hx24;clear hgu;refine aL ?_;refine aa (fun j S H'=>∃w,AppG lo 7 H4 b2 (cat aM (eR a::(T1++sI p first lower um (V.take j)))) w H'/\∃(z:Nat->Value),S=[ptr sb,aA a,z 2,aA first,.bool lower,z 5,w,z 7,ptr H2.length,z 9,z 10,z 11,z 12,z 13,.slice au U.length U.length,.int .i64 (U.length:Nat),.int .i64 (k:Nat),z 17,.slice av V.length V.length,.int .i64 (V.length:Nat),.int .i64 (j:Nat),z 21,z 22,z 23,z 24,z 25,z 26,z 27,z 28,z 29]) V.length ⟨_,AppG.self (by simpa[sI]using ho4) byO,aJ ncM⟩ ?_ ?_ ?_
  ·rintro j S H' hj ⟨w,hap,z,rfl⟩
   exact⟨decide ((j:Int)<(V.length:Nat)),by simp(disch:=try exact dO)only[evB,xtr,Nat.reduceAdd,Nat.reduceBEq, *],by simp⟩
  ·rintro j S H5 hj ⟨w,hap,z,rfl⟩
   obtain⟨b5,hb5,hb5l,ho5,hk5⟩:=hap;have hx5:=hk5.ext hx04 byO;have hV5:=hoV.keep hk5 byO;have hgu5:=hk5.get hgu4 byO;obtain⟨p5,o5,X5,i5,g5,l5,e5⟩:=hV5.at byO gw hj;have hokV:=hVok _ (List.getElem_mem hj);have hsplit:=kE (fun v=>pb first um v (iX p v.a v.s v.u lower)) V j hj;change sI p first lower um (V.take (j+1))=sI p first lower um (V.take j)++_ at hsplit
   have hT2l:=xV (p:=p) (first:=first) (lower:=lower) (u:=um) (L:=V.take j);have hTj:(V.take j).length=j:=List.length_take_of_le byO;rw[hsplit];clear hsplit;generalize sI p first lower um (V.take j)=T2 at ho5 hT2l
   generalize V[j]=vm at e5 hokV;have hl5:=hk5.len;refine aL ?_;change wpS cp lo _ _ _ (H5++[some (mvC vm)]);have hxd:Ext H5 (H5++[some (mvC vm)]):=Ext.app _ _;have hgv:(H5++[some (mvC vm)]).get H5.length=some [aA vm.v,aA vm.a,aA vm.s,.bool vm.u]:=aG;have hld:(H5++[some (mvC vm)]).length<=H5.length+1/\H5.length+1<=(H5++[some (mvC vm)]).length:=by simp
   generalize H5++[some (mvC vm)]=H6 at hxd hgv hld;obtain⟨hw1,hw2,hw3,hw4⟩:=hokV;clear g5 l5 e5 i5 hV5;have hgu6:=hxd.get hgu5;refine bY ?_;refine aB (M0 (hs.ext (hx5.trans hxd)) hw3 hw4 byO) ?_;rintro mw H7 ⟨hx7,bw,hbw,hoW⟩;have hWl:=iY p vm.a vm.s vm.u lower;have hWok:=lV (s:=vm.s) (u:=vm.u) (lower:=lower) hw3;generalize iX p vm.a vm.s vm.u lower=W at hoW hWl hWok;obtain⟨aw,rfl⟩:=hoW.len byO gw;have ho7:=ho5.mono (hxd.trans hx7);have hx57:=hxd.trans hx7;have hgv7:=hx7.get hgv;have hgu7:=hx7.get hgu6;have hl7:=hx7.1;have hx07:=hx5.trans hx57;clear hgv hgu6;refine aL ?_;refine aa (fun q S H'=>∃w,AppG lo 7 H7 b5 (cat aM (eR a::(T1++(T2++pb first um vm (W.take q))))) w H'/\∃(z:Nat->Value),S=[ptr sb,aA a,z 2,aA first,.bool lower,z 5,w,z 7,ptr H2.length,ptr H5.length,z 10,z 11,z 12,z 13,.slice au U.length U.length,.int .i64 (U.length:Nat),.int .i64 (k:Nat),z 17,.slice av V.length V.length,.int .i64 (V.length:Nat),.int .i64 (j:Nat),z 21,.slice aw W.length W.length,.int .i64 (W.length:Nat),.int .i64 (q:Nat),z 25,z 26,z 27,z 28,z 29]) W.length ⟨_,AppG.self (by simpa[pb]using ho7) byO,aJ ncM⟩ ?_ ?_ ?_
   ·rintro q S H' hq ⟨w,hap,z,rfl⟩
    exact⟨decide ((q:Int)<(W.length:Nat)),by simp(disch:=try exact dO)only[evB,xtr,Nat.reduceAdd,Nat.reduceBEq, *],by simp⟩
   ·rintro q S H8 hq ⟨w,hap,z,rfl⟩
    obtain⟨b8,hb8,hb8l,ho8,hk8⟩:=hap;have hx8:=hk8.ext hx07 byO;have hW8:=hoW.keep hk8 byO;have hgu8:=hk8.get hgu7 byO;have hgv8:=hk8.get hgv7 byO;obtain⟨p8,o8,X8,i8,g8,l8,e8⟩:=hW8.at byO gw hq;have hokW:=hWok _ (List.getElem_mem hq);have hsplit:=map_take (fun w:Mv=>j0 um.v vm.v w.v w.a (gX first w)) W q hq;change pb first um vm (W.take (q+1))=pb first um vm (W.take q)++_ at hsplit
    have hT3l:=xW (first:=first) (u:=um) (v:=vm) (L:=W.take q);have hTq:(W.take q).length=q:=List.length_take_of_le byO;rw[hsplit];clear hsplit;generalize pb first um vm (W.take q)=T3 at ho8 hT3l
    generalize W[q]=wm at e8 hokW;have hl8:=hk8.len;obtain⟨hz1,hz2,hz3,hz4⟩:=hokW;refine aL ?_;change wpS cp lo _ _ _ (H8++[some (mvC wm)]);have hxe:Ext H8 (H8++[some (mvC wm)]):=Ext.app _ _;have hgw:(H8++[some (mvC wm)]).get H8.length=some [aA wm.v,aA wm.a,aA wm.s,.bool wm.u]:=aG;have hle:(H8++[some (mvC wm)]).length<=H8.length+1/\H8.length+1<=(H8++[some (mvC wm)]).length:=by simp
    generalize H8++[some (mvC wm)]=H9 at hxe hgw hle;clear g8 l8 e8 i8 hW8;have hgu9:=hxe.get hgu8;have hgv9:=hxe.get hgv8;replace ho8:=ho8.mono hxe;have hmS:gX first wm=if wm.u then first+wm.s+4 else first+wm.s:=rfl
    have hmle:=we (first:=first) hz4;refine bz (fun S' H'=>H9=H'/\∃(z:Nat->Value),S'=[ptr sb,aA a,z 2,aA first,.bool lower,z 5,w,z 7,ptr H2.length,ptr H5.length,ptr H8.length,aA (gX first wm),z 12,z 13,.slice au U.length U.length,.int .i64 (U.length:Nat),.int .i64 (k:Nat),z 17,.slice av V.length V.length,.int .i64 (V.length:Nat),.int .i64 (j:Nat),z 21,.slice aw W.length W.length,.int .i64 (W.length:Nat),.int .i64 (q:Nat),z 25,z 26,z 27,z 28,z 29]) ?_ ?_
    ·generalize gX first wm=ms at hmS hmle
     cases hwu:wm.u with
     | true=>
      rw[hwu]at hmS hgw;simp only[if_true]at hmS;subst hmS;refine bQ ?_ ?_<;>intro h
      ·clear h
       refine aL ?_;exact⟨by trivial,aJ ncM⟩
      ·cases h
     | false=>
      rw[hwu]at hmS hgw;simp only[ah₀,if_false]at hmS;subst hmS;refine bQ ?_ ?_<;>intro h
      ·cases h
      ·clear h
       (try simp only[aC]);exact⟨by trivial,aJ ncM⟩
    ·rintro S' H9' ⟨rfl,z,rfl⟩
     clear hmS;generalize gX first wm=ms at hmle
     (try simp only[aC]);refine bY ?_;refine aB (Qe (lo:=lo) (u:=um.v) (v:=vm.v) (w:=wm.v) (a:=wm.a) (m:=ms) byO byO byO byO byO byO) ?_;rintro r H10 ⟨hx10,rfl⟩;have hTl2:T1.length+T2.length+T3.length<=1000:=byO;clear hgu9 hgv9 hgw hgu8 hgv8;generalize j0 um.v vm.v wm.v wm.a ms=o;have hl10:=hx10.1;refine aL ?_;change wpS cp lo _ _ _ (H10++[some (aM o)]);have hxf:Ext H10 (H10++[some (aM o)]):=Ext.app _ _;have hgo:(H10++[some (aM o)]).get H10.length=some (aM o):=aG;have hlf:(H10++[some (aM o)]).length<=H10.length+1/\H10.length+1<=(H10++[some (aM o)]).length:=by simp
     generalize H10++[some (aM o)]=H11 at hxf hgo hlf;refine bY ?_;refine Kp (enc:=aM) (r:=o) byO byO fS wo (ho8.mono (hx10.trans hxf)) byO (by simp;omega) hgo ?_;intro v' H12 hap;have hap2:=AppG.trans hk8 hb8 (hxe.trans (hx10.trans hxf)) hap;clear hgo;refine aL ?_;exact⟨_,by simpa using hap2,aJ ncM⟩
   ·rintro S H8 ⟨w,hap,z,rfl⟩
    rw[List.take_length]at hap;have hap2:=AppG.trans hk5 hb5 hx57 hap;refine aL ?_;exact⟨_,hap2,aJ ncM⟩
  ·rintro S H5 ⟨w,hap,z,rfl⟩
   rw[List.take_length]at hap;have hap2:=AppG.trans hk2 hb2 hx24 hap;refine aL ?_;exact⟨_,hap2,aJ ncM⟩
 ·rintro S H2 ⟨w,hap,z,rfl⟩
  rw[List.take_length]at hap;have hx2:=hap.ext hx01 (Nat.le_refl _);obtain⟨b2,hb2,hb2l,ho2,hk2⟩:=hap;refine aL ?_;refine bU ?_;exact⟨hx2,b2,byO,ho2⟩
end
section
variable {lo:Nat}{H:Heap}{sb cb:Nat}{v:Value}{p:List UInt8}{cs:List Nat}
theorem keepSet{b:Nat}{x:Option (List Value)}:Keep b H (List.set H b x):=⟨by simp,fun i _ hne=>aI (fun e=>hne e.symm)⟩
theorem mr{cp:FuncId->Option CF}{z:List Value}{w:Value}{b:Nat}{L:List Opt}{o:Opt}{R:Value->Heap->Prop}(ho:OwnG lo 7 H w b (cat aM L))(hlo:lo<=H.length)(hbig:L.length<=10000000)
  (k:∀v' H',AppG lo 7 H b (cat aM (L++[o])) v' H'->R v' H'):wpH cp lo (.app 7 z) [w,.slice (some ⟨H.length,0,none⟩) 1 1] (H++[some (aM o)]) R:=by
 have hx:Ext H (H++[some (aM o)]):=Ext.app _ _;refine Kp (enc:=aM) (r:=o) byO byO fS wo (ho.mono hx) (by simp;omega) hbig aG ?_;intro v' H' h;exact k v' H' (AppG.trans (Ext.keep (Ext.refl _)) (.inl rfl) hx h)
open XYe
theorem Qh{a:Nat}(hs:SrH H sb cb v p cs)(ha:a<=p.length)(hlo:lo<=H.length):Ev cp lo 196 [ptr sb,aA a] H (fun r H'=>Ext H H'/\∃b,H.length<=b/\OwnG lo 7 H' r b (cat aM (sP p a))):=by
 have hi:=hs.hi;have hgs:=hs.g;obtain⟨ad,c,ev⟩:=hs.pl.len;rw[ev]at hgs;refine stG rfl rfl ?_;unfold J9;simp only[kB,aC];refine aE ?_;have hxb:Ext H (H++[some (aM (eR a))]):=Ext.app _ _;have hg0:(H++[some (aM (eR a))]).get H.length=some (aM (eR a)):=aG;have hlc:(H++[some (aM (eR a))]).length<=H.length+1/\H.length+1<=(H++[some (aM (eR a))]).length:=by simp
 change wpS cp lo _ _ _ (H++[some (aM (eR a))]);generalize H++[some (aM (eR a))]=H0 at hxb hg0 hlc;have ho0:OwnG lo 7 H0 (.slice (some ⟨H.length,0,none⟩) 1 1) H.length (cat aM [eR a]):=.inr ⟨hlo,1,byO,rfl,rfl,hg0⟩;have hgs0:=hxb.get hgs;clear hgs;unfold sP;by_cases h3:a+3<=p.length
 ·have hd:decide ((p.length:Int)-(a:Nat)<3)=false:=decide_eq_false byO
  refine aN ?_ ?_<;>intro h
  ·simp at h
  clear h hd;refine aE ?_;have hxa:Ext H0 (H0++[some [Value.int .i64 0,Value.int .i64 0,Value.int .i64 0]]):=Ext.app _ _;have hga:(H0++[some [Value.int .i64 0,Value.int .i64 0,Value.int .i64 0]]).get H0.length=some [Value.int .i64 0,Value.int .i64 0,Value.int .i64 0]:=aG;have hla:(H0++[some [Value.int .i64 0,Value.int .i64 0,Value.int .i64 0]]).length<=H0.length+1/\H0.length+1<=(H0++[some [Value.int .i64 0,Value.int .i64 0,Value.int .i64 0]]).length:=by simp
  generalize H0++[some [Value.int .i64 0,Value.int .i64 0,Value.int .i64 0]]=H1 at hxa hga hla;have hgs1:=hxa.get hgs0;have hx1:=hxb.trans hxa;have ho1:=ho0.mono hxa;clear hg0 ho0 hgs0;refine aa (fun k S H'=>(Ext H H'/\OwnG lo 7 H' (.slice (some ⟨H.length,0,none⟩) 1 1) H.length (cat aM [eR a])/\H'.get sb=some [.slice ad p.length c,.slice (some ⟨cb,0,none⟩) (p.length+1) (p.length+1)])/\(∃X:List Value,(X.length<=3/\3<=X.length)/\H'.get H0.length=some X/\∀i,i<k->X[i]?=some (aA (dE (by' p (a+i))-1))/\dE (by' p (a+i))≠0)/\∃(z:Nat->Value),S=[ptr sb,aA a,z 2,.slice (some ⟨H.length,0,none⟩) 1 1,ptr H0.length,z 5,z 6,.int .i64 (k:Nat),z 8,z 9,z 10,z 11,z 12,z 13]) 3 ⟨⟨hx1,ho1,hgs1⟩,⟨_,by simp,hga,fun i hi=>absurd hi byO⟩,aJ ncM⟩ ?_ ?_ ?_
  ·rintro k S H' hk ⟨h1,h2,z,rfl⟩
   exact⟨decide ((k:Int)<3),by simp(disch:=try exact dO)only[evB,xtr,Nat.reduceAdd,Nat.reduceBEq,Int.reduceToNat, *],by simp;omega⟩
  ·rintro k S H2 hk ⟨⟨hx2,ho2,hgs2⟩,⟨X,hX,hgl,hli⟩,z,rfl⟩
   have hap:a+k<p.length:=byO;have hc12:∃h12:a+k<p.length,True:=⟨hap,trivial⟩;obtain⟨bb,oo,xs,hia,hgx,hxx⟩:=fX (hs.ext hx2).pl hap;rw[ev]at hia;have hby:=(p.getD (a+k) 0).toNat_lt;have hll:=Heap.get_lt hgl;have hll2:=hx2.1;replace hli:False\/∀i,i<k->X[i]?=some (aA (dE (by' p (a+i))-1))/\dE (by' p (a+i))≠0:=.inr hli;obtain⟨d,hdd⟩:∃d,False\/d=p.getD (a+k) 0:=⟨_,.inr rfl⟩;rw[<-hdd.resolve_left id]at hxx hby;simp only[ap₀]at hia;have hmd:dE d.toNat<=40:=gF _;refine aE ?_;refine bR ?_;refine aB (Sb (lo:=lo) (k:=d.toNat) hby byO) ?_;rintro r H3 ⟨rfl,hx3⟩;have hgl3:=hx3.get hgl;have hll3:=hx3.1;refine aE ?_;have hk4:Keep H0.length H3 (List.set H3 H0.length (some (X.set k (Value.int .i64 ((dE d.toNat:Int)-1))))):=keepSet;have hg4:Heap.get (List.set H3 H0.length (some (X.set k (Value.int .i64 ((dE d.toNat:Int)-1))))) H0.length=some (X.set k (Value.int .i64 ((dE d.toNat:Int)-1))):=aF byO;generalize List.set H3 H0.length (some (X.set k (Value.int .i64 ((dE d.toNat:Int)-1))))=H4 at hk4 hg4;have hx4:=hk4.ext (hx2.trans hx3) byO;have ho4:=(ho2.mono hx3).keep hk4 byO;have hsl:=Heap.get_lt hgs1;have hgs4:=hk4.get (hx3.get hgs2) (by have:=Heap.get_lt hs.g;omega);have hXk:(X.set k (Value.int .i64 ((dE d.toNat:Int)-1)))[k]?=some (Value.int .i64 ((dE d.toNat:Int)-1)):=by rw[List.getElem?_set_self byO]
   have hXl:(X.set k (Value.int .i64 ((dE d.toNat:Int)-1))).length<=3/\3<=(X.set k (Value.int .i64 ((dE d.toNat:Int)-1))).length:=by simp;omega
   have hXi:False\/∀i,i<k->(X.set k (Value.int .i64 ((dE d.toNat:Int)-1)))[i]?=X[i]?:=.inr (fun i hi=>by rw[List.getElem?_set_ne byO]);generalize X.set k (Value.int .i64 ((dE d.toNat:Int)-1))=X4 at hg4 hXk hXl hXi;clear hgl hgl3 hk4 hgx;by_cases hz:dE d.toNat=0
   ·have hd:decide ((dE d.toNat:Int)-1<0)=true:=decide_eq_true byO
    have hno:¬ (a+3<=p.length/\dE (by' p a)≠0/\dE (by' p (a+1))≠0/\dE (by' p (a+2))≠0):=by
     rw[hdd.resolve_left id]at hz;rintro⟨_,n0,n1,n2⟩;have:k=0\/k=1\/k=2:=byO;rcases this with rfl|rfl|rfl
     ·exact n0 hz
     ·exact n1 hz
     ·exact n2 hz
    rw[if_neg hno];clear hno;replace hz:dE d.toNat<=0:=byO;refine aN ?_ ?_<;>intro h
    ·refine aE ?_
     refine dB ?_;exact⟨hx4,_,Nat.le_refl _,ho4⟩
    ·simp at h
   ·have hd:decide ((dE d.toNat:Int)-1<0)=false:=decide_eq_false byO
    replace hz:1<=dE d.toNat:=byO;refine aN ?_ ?_<;>intro h
    ·simp at h
    ·clear h hd
     refine aE ?_;refine⟨⟨hx4,ho4,hgs4⟩,⟨X4,hXl,hg4,fun i hi=>?_⟩,aJ ncM⟩;by_cases hik:i=k
     ·subst hik
      rw[hXk];rw[hdd.resolve_left id]at hz ⊢;refine⟨?_,by unfold by';omega⟩;unfold aA by';congr 2;omega
     ·rw[hXi.resolve_left id i byO]
      exact hli.resolve_left id i byO
  ·rintro S H2 ⟨⟨hx2,ho2,hgs2⟩,⟨X,hX,hgl,hli⟩,z,rfl⟩
   obtain⟨e0,n0⟩:=hli 0 byO;obtain⟨e1,n1⟩:=hli 1 byO;obtain⟨e2,n2⟩:=hli 2 byO;rw[if_pos ⟨h3,n0,n1,n2⟩];have m0:dE (by' p a)-1<=39:=by have:=gF (by' p a);omega
   have m1:dE (by' p (a+1))-1<=39:=by have:=gF (by' p (a+1));omega
   have m2:dE (by' p (a+2))-1<=39:=by have:=gF (by' p (a+2));omega
   replace e0:X[0]?=some (aA (dE (by' p a)-1)):=e0;clear hli n0 n1 n2;generalize dE (by' p a)-1=q0 at e0 m0;generalize dE (by' p (a+1))-1=q1 at e1 m1;generalize dE (by' p (a+2))-1=q2 at e2 m2;have hll:=Heap.get_lt hgl;have hl2:=hx2.1;(try simp only[aC]);refine bR ?_;refine aB (Qe (lo:=lo) (u:=q0) (v:=q1) (w:=q2) (a:=a+3) (m:=17) byO byO byO byO byO byO) ?_;rintro r H3 ⟨hx3,rfl⟩;have hl3:=hx3.1;have ho3:=ho2.mono hx3;clear hgl;generalize j0 q0 q1 q2 (a+3) 17=o;refine aE ?_;change wpS cp lo _ _ _ (H3++[some (aM o)]);refine bR ?_;refine mr (o:=o) ho3 byO (by simp) ?_;intro v' H4 hap;have hx4:=hap.ext (hx2.trans hx3) (Nat.le_refl _);obtain⟨b4,h1,h2,h3,h4⟩:=hap;refine aE ?_;refine dB ?_;exact⟨hx4,b4,byO,h3⟩
 ·have hd:decide ((p.length:Int)-(a:Nat)<3)=true:=decide_eq_true byO
  rw[if_neg (fun h=>h3 h.1)];refine aN ?_ ?_<;>intro h
  ·refine aE ?_
   refine dB ?_;exact⟨hxb,_,Nat.le_refl _,ho0⟩
  ·simp at h
end
theorem PM{g c:Nat}(hc:c<64):64*g ||| c=64*g+c:=(Nat.two_pow_add_eq_or_of_lt (i:=6) hc g).symm
section
variable {lo:Nat}{H:Heap}{sb cb:Nat}{v:Value}{p:List UInt8}{cs:List Nat}
theorem wI{p:List UInt8}{at':Nat}:∀(k n g:Nat),(gg p at' k n g).length<=k+1
 | 0,n,g=>by simp[gg]
 | k+1,n,g=>by
  have:=wI (p:=p) (at':=at') k (n+1) (64*g+by' p (at'+n)%64);simp only[gg];split<;>simp<;>omega
theorem BK{a k g:Nat}(hk:k<4)(h:¬ (a+k<p.length/\32<=by' p (a+k)/\by' p (a+k)<=94)):gg p a (4-k) k g=[fF (64*g+31) (k+1) (a+k) 0]:=by
 obtain⟨j,hj⟩:∃j,4-k=j+1:=⟨3-k,byO⟩;rw[hj,gg,if_neg h]
theorem G5{a k g:Nat}(hk:k<4)(h:a+k<p.length/\32<=by' p (a+k)/\by' p (a+k)<=94):gg p a (4-k) k g=fF (64*g+31) (k+1) (a+k) 0::gg p a (4-(k+1)) (k+1) (64*g+by' p (a+k)%64):=by
 obtain⟨j,hj⟩:∃j,4-k=j+1:=⟨3-k,byO⟩;rw[hj,gg,if_pos h,show 4-(k+1)=j by omega]
open XYe
theorem RI{a:Nat}(hs:SrH H sb cb v p cs)(ha:a<=p.length)(hlo:lo<=H.length):Ev cp lo 197 [ptr sb,aA a] H (fun r H'=>Ext H H'/\∃b,H.length<=b/\OwnG lo 7 H' r b (cat aM (oU p a))):=by
 have hi:=hs.hi;have hsl:=Heap.get_lt hs.g;refine stG rfl rfl ?_;unfold Ja;simp only[kB,aC];refine aE ?_;refine aa (fun k S H'=>Ext H H'/\∃w b g L,(H.length<=b/\OwnG lo 7 H' w b (cat aM L))/\(L++gg p a (4-k) k g=oU p a/\L.length=k/\g<2^(6*k)/\a+k<=p.length)/\∃(z:Nat->Value),S=[ptr sb,aA a,z 2,w,aA g,z 5,z 6,.int .i64 (k:Nat),z 8,z 9,z 10,z 11,z 12,z 13,z 14,z 15]) 4 ⟨Ext.refl _,_,H.length,0,[],⟨Nat.le_refl _,OwnG.nil hlo⟩,⟨rfl,rfl,by decide,ha⟩,aJ rfl⟩ ?_ ?_ ?_
 ·rintro k S H' hk ⟨hx,w,b,g,L,h1,h2,z,rfl⟩
  exact⟨decide ((k:Int)<4),by simp(disch:=try exact dO)only[evB,xtr,Nat.reduceAdd,Nat.reduceBEq,Int.reduceToNat, *],by simp;omega⟩
 ·rintro k S H1 hk ⟨hx1,w,b,g,L,⟨hb,ho⟩,⟨hL,hLk,hg,hak⟩,z,rfl⟩
  have hs1:=hs.ext hx1;have hgs:=hs1.g;obtain⟨ad,c,ev⟩:=hs.pl.len;rw[ev]at hgs;have hl1:=hx1.1;replace hLk:L.length<=k/\k<=L.length:=byO;replace hL:False\/_:=.inr hL;have h18:(2:Nat)^(6*k)<=262144:=Nat.le_trans (Nat.pow_le_pow_right (by decide) (show 6*k<=18 by omega)) (by decide);have h6:=Pu k;replace hg:False\/_:=.inr hg;have hg3:g<262144:=by have:=hg.resolve_left id;omega
  have hor:IntKind.i64.wrap ((BitVec.ofInt IntKind.i64.bits ((64*g:Nat):Int) ||| BitVec.ofInt IntKind.i64.bits ((31:Nat):Int)).toNat:Int)=((64*g+31:Nat):Int):=by rw[Ea byO byO,PM byO]
  have hsh:IntKind.i64.wrap ((g:Int)*2^(min 6 IntKind.i64.bits))=((64*g:Nat):Int):=by
   have e:min 6 IntKind.i64.bits=6:=by decide
   rw[e,show(g:Int)*2^6=((64*g:Nat):Int) by omega];exact Am byO
  simp only[Int.cast_ofNat_Int]at hor;refine aE ?_;refine bR ?_;refine aB (OV (lo:=lo) (g:=64*g+31) (n:=k+1) (a:=a+k) (m:=0) byO (by have:=hg.resolve_left id;omega) byO byO byO) ?_;rintro r H2 ⟨hx2,rfl⟩;have hl2:=hx2.1;have hstop:=fun h=>BK (p:=p) (a:=a) (g:=g) hk h;have hgo:=fun h=>G5 (p:=p) (a:=a) (g:=g) hk h;replace hstop:False\/_:=.inr hstop;replace hgo:False\/_:=.inr hgo;have ho2:=ho.mono hx2;generalize fF (64*g+31) (k+1) (a+k) 0=o at hstop hgo;refine aE ?_;change wpS cp lo _ _ _ (H2++[some (aM o)]);refine bR ?_;refine mr (o:=o) ho2 byO byO ?_;intro w3 H3 hap;have hx3:=hap.ext (hx1.trans hx2) hb;obtain⟨b3,h1,h2,h3,h4⟩:=hap;have hs3:=hs.ext hx3;have hgs3:=hs3.g;rw[ev]at hgs3;have hl3:=hx3.1;refine aE ?_;by_cases hap:a+k<p.length
  ·have hd:decide (((a:Nat):Int)+(k:Nat)>=(p.length:Nat))=false:=decide_eq_false byO
   have hd':decide ((p.length:Nat)<=((a:Nat):Int)+(k:Nat))=false:=decide_eq_false byO;obtain⟨bb,oo,xs,hia,hgx,hxx⟩:=fX hs3.pl hap;rw[ev]at hia;have hby:=(p.getD (a+k) 0).toNat_lt;simp only[ap₀]at hia;refine aN ?_ ?_<;>intro h
   ·simp at h
   clear h hd hd';replace hgo:=fun h=>hgo.resolve_left id ⟨hap,h⟩;replace hstop:=fun(h:¬ (32<=by' p (a+k)/\by' p (a+k)<=94))=>hstop.resolve_left id (fun h2=>h h2.2);unfold by' at hgo hstop;replace hxx:xs[oo]?=some (.int .u8 ((p.getD (a+k) 0).toNat:Nat)):=hxx;generalize (p.getD (a+k) 0).toNat=q at hxx hby hgo hstop;replace hstop:False\/_:=.inr hstop;replace hgo:False\/_:=.inr hgo;refine aE ?_;by_cases hq:32<=q/\q<=94
   ·obtain⟨hq1,hq2⟩:=hq
    have hd1:decide ((q:Int)<32)=false:=decide_eq_false byO;have hd2:decide ((q:Int)>94)=false:=decide_eq_false byO;have hd3:decide ((94:Int)<(q:Nat))=false:=decide_eq_false byO;have hand:IntKind.i64.wrap ((BitVec.ofInt IntKind.i64.bits ((q:Nat):Int) &&& BitVec.ofInt IntKind.i64.bits ((63:Nat):Int)).toNat:Int)=((q%64:Nat):Int):=by rw[uC byO byO,Nh]
    have hor2:IntKind.i64.wrap ((BitVec.ofInt IntKind.i64.bits ((64*g:Nat):Int) ||| BitVec.ofInt IntKind.i64.bits ((q%64:Nat):Int)).toNat:Int)=((64*g+q%64:Nat):Int):=by rw[Ea byO byO,PM byO]
    simp only[Int.cast_ofNat_Int]at hand;refine aN ?_ ?_<;>intro h
    ·simp at h
    clear h hd1 hd2 hd3;refine aE ?_;refine⟨hx3,_,b3,_,L++[o],⟨byO,h3⟩,⟨?_,by simp;omega,?_,byO⟩,aJ ncM⟩
    ·rw[<-hL.resolve_left id,hgo.resolve_left id ⟨hq1,hq2⟩,ba₀];rfl
    ·have:=hg.resolve_left id
     rw[h6];omega
   ·have hd:(decide ((q:Int)<32) || decide ((q:Int)>94))=true:=by simp;omega
    have hfin:L++[o]=oU p a:=by rw[<-hL.resolve_left id,hstop.resolve_left id hq]
    rw[hfin]at h3;clear hfin;refine aN ?_ ?_<;>intro h
    ·refine aE ?_
     refine dB ?_;exact⟨hx3,b3,byO,h3⟩
    ·simp at h
  ·have hd:decide (((a:Nat):Int)+(k:Nat)>=(p.length:Nat))=true:=decide_eq_true byO
   have hd':decide ((p.length:Nat)<=((a:Nat):Int)+(k:Nat))=true:=decide_eq_true byO;have hfin:L++[o]=oU p a:=by rw[<-hL.resolve_left id,hstop.resolve_left id (fun h=>hap h.1)]
   rw[hfin]at h3;clear hfin;refine aN ?_ ?_<;>intro h
   ·refine aE ?_
    refine dB ?_;exact⟨hx3,b3,byO,h3⟩
   ·simp at h
 ·rintro S H1 ⟨hx1,w,b,g,L,⟨hb,ho⟩,⟨hL,hLk,hg,hak⟩,z,rfl⟩
  have hl1:=hx1.1;replace hLk:L.length<=4:=byO;replace hL:L++[fF g 4 (a+4) 18]=oU p a:=hL;have hg3:g<16777216:=bc₀ hg (by decide);replace hL:False\/_:=.inr hL;replace hg:False\/_:=.inr hg;(try simp only[aC]);refine bR ?_;refine aB (OV (lo:=lo) (g:=g) (n:=4) (a:=a+4) (m:=18) byO (hg.resolve_left id) byO byO byO) ?_;rintro r H2 ⟨hx2,rfl⟩;have hl2:=hx2.1;have ho2:=ho.mono hx2;generalize fF g 4 (a+4) 18=o at hL;refine aE ?_;change wpS cp lo _ _ _ (H2++[some (aM o)]);refine bR ?_;refine mr (o:=o) ho2 byO byO ?_;intro w3 H3 hap;have hx3:=hap.ext (hx1.trans hx2) hb;obtain⟨b3,h1,h2,h3,h4⟩:=hap;rw[hL.resolve_left id]at h3;refine aE ?_;refine dB ?_;exact⟨hx3,b3,byO,h3⟩
end
section
variable {lo:Nat}{H:Heap}{sb cb:Nat}{v:Value}{p:List UInt8}{cs:List Nat}
theorem Ih{o:Opt}(hs:SrH H sb cb v p cs)(ho:o.sz<=10/\o.run<=10000/\o.nx<=p.length/\o.md<19):Ev cp lo 177 [ptr sb,yl o] H (fun r H'=>Ext H H'/\r=aA (bD cs o)):=Sa hs ho.1 ho.2.1 ho.2.2.1 ho.2.2.2
open XYe
theorem Qs{a:Nat}(hs:SrH H sb cb v p cs)(ha:a<p.length)(hlo:lo<=H.length):Ev cp lo 206 [ptr sb,aA a] H (fun r H'=>Ext H H'/\r=yl (uG p cs a)):=by
 have hi:=hs.hi;have hsl:=Heap.get_lt hs.g;obtain⟨ad,c,ev⟩:=hs.pl.len;refine stG rfl rfl ?_;unfold Jf;simp only[kB,aC];refine aE ?_;have hxb:Ext H (H++[some (aM bm),some (aM bm)]):=Ext.app _ _;have hg0:(H++[some (aM bm),some (aM bm)]).get H.length=some (aM bm):=aG;have hg1:(H++[some (aM bm),some (aM bm)]).get (H.length+1)=some (aM bm):=by rw[bL];rfl
 have hlc:(H++[some (aM bm),some (aM bm)]).length<=H.length+2/\H.length+2<=(H++[some (aM bm),some (aM bm)]).length:=by simp
 change wpS cp lo _ _ _ (H++[some (aM bm),some (aM bm)]);generalize H++[some (aM bm),some (aM bm)]=H0 at hxb hg0 hg1 hlc;have hxb0:=hxb.1;refine aa (fun k S H'=>((Ext H H'/\H'.get H.length=some (aM bm))/\H'.get (H.length+1)=some (aM (fW cs a k)))/\∃(z:Nat->Value),S=[ptr sb,aA a,ptr H.length,ptr (H.length+1),.int .i64 ((k+1:Nat):Nat),z 5,z 6,z 7,z 8,z 9,z 10,z 11]) (min (p.length-a) 1749) ⟨⟨⟨hxb,hg0⟩,hg1⟩,aJ ncM⟩ ?_ ?_ ?_
 ·rintro k S H' hk ⟨⟨⟨hx,h0⟩,h1⟩,z,rfl⟩
  have hgs:=(hs.ext hx).g;rw[ev]at hgs;refine⟨decide (k<min (p.length-a) 1749),?_,by simp⟩;by_cases h:k+1<=p.length-a
  ·have hd:decide (((k+1:Nat):Int)<=(p.length:Nat)-(a:Nat))=true:=decide_eq_true byO
   by_cases h2:k+1<=1749
   ·rw[decide_eq_true byO]
    have hd2:decide (((k+1:Nat):Int)<=1749)=true:=decide_eq_true byO;simp(disch:=try exact dO)only[evB,xtr,Nat.reduceAdd,Nat.reduceBEq,Int.reduceToNat, *]
   ·rw[decide_eq_false byO]
    have hd2:decide (((k+1:Nat):Int)<=1749)=false:=decide_eq_false byO;simp(disch:=try exact dO)only[evB,xtr,Nat.reduceAdd,Nat.reduceBEq,Int.reduceToNat, *]
  ·rw[decide_eq_false byO]
   have hd:decide (((k+1:Nat):Int)<=(p.length:Nat)-(a:Nat))=false:=decide_eq_false byO;simp(disch:=try exact dO)only[evB,xtr,Nat.reduceAdd,Nat.reduceBEq,Int.reduceToNat, *]
 ·rintro k S H1 hk ⟨⟨⟨hx1,h0⟩,h1⟩,z,rfl⟩
  have hk1:k+1<=p.length-a:=byO;have hk2:k+1<=1749:=byO;clear hk;have hl1:=hx1.1;have hl11:=Heap.get_lt h1;refine aE ?_;change wpS cp lo _ _ _ (H1++[some (aM ⟨231,k+1,0,2,k+1,a+(k+1),0⟩)]);have hxc:Ext H1 (H1++[some (aM ⟨231,k+1,0,2,k+1,a+(k+1),0⟩)]):=Ext.app _ _;have hgc:(H1++[some (aM ⟨231,k+1,0,2,k+1,a+(k+1),0⟩)]).get H1.length=some [aA 231,aA (k+1),aA 0,aA 2,aA (k+1),aA (a+(k+1)),aA 0]:=aG;have hlc2:(H1++[some (aM ⟨231,k+1,0,2,k+1,a+(k+1),0⟩)]).length<=H1.length+1/\H1.length+1<=(H1++[some (aM ⟨231,k+1,0,2,k+1,a+(k+1),0⟩)]).length:=by simp
  generalize H1++[some (aM ⟨231,k+1,0,2,k+1,a+(k+1),0⟩)]=H2 at hxc hgc hlc2;refine bz (fun S' H'=>(Ext H1 H'/\H'.get H1.length=some (aM (cW a (k+1))))/\∃(z:Nat->Value),S'=[ptr sb,aA a,ptr H.length,ptr (H.length+1),.int .i64 ((k+1:Nat):Nat),ptr H1.length,z 6,z 7,z 8,z 9,z 10,z 11]) ?_ ?_
  ·by_cases h250:k+1<250
   ·have hd:decide (((k+1:Nat):Int)>=250)=false:=decide_eq_false byO
    have hb:cW a (k+1)=⟨231,k+1,0,2,k+1,a+(k+1),0⟩:=by unfold cW;rw[if_pos h250]
    rw[hb];clear hb;refine aN ?_ ?_<;>intro h
    ·simp at h
    ·(try simp only[aC])
     exact⟨⟨hxc,hgc⟩,aJ ncM⟩
   ·have hd:decide (((k+1:Nat):Int)>=250)=true:=decide_eq_true byO
    have hb:cW a (k+1)=⟨231,249+(k+1)/250,(k+1)%250,3,k+1,a+(k+1),0⟩:=by unfold cW;rw[if_neg h250]
    rw[hb];clear hb;have eq1:((k+1:Nat):Int).tdiv 250=(((k+1)/250:Nat):Int):=by rw[Int.tdiv_eq_ediv_of_nonneg byO];omega
    have eq2:((k+1:Nat):Int).tmod 250=(((k+1)%250:Nat):Int):=by rw[Int.tmod_eq_emod_of_nonneg byO];omega
    have hq1:(k+1)/250<=10:=byO;have hq2:(k+1)%250<250:=byO;generalize k+1=n at *;generalize n/250=q1 at eq1 hq1;generalize n%250=q2 at eq2 hq2;refine aN ?_ ?_<;>intro h
    ·clear h hd
     refine aE ?_;exact⟨⟨keepSet.ext (keepSet.ext hxc (Nat.le_refl _)) (Nat.le_refl _),aF (by simp;omega)⟩,aJ ncM⟩
    ·simp at h
  ·rintro S' H3 ⟨⟨hx3,hgo⟩,z,rfl⟩
   have hok:=uF (N:=p.length) (at':=a) (n:=k+1) byO byO byO;have hx13:=hx1.trans hx3;have hbest:=hx3.get h1;have hz:=hx3.get h0;have hl3:=hx3.1;have hlo1:=Heap.get_lt hgo;by_cases hk0:k=0
   ·have hB:fW cs a (k+1)=cW a (k+1):=by subst hk0;rfl
    rw[hB];clear hB;generalize cW a (k+1)=o at hgo hok;generalize fW cs a k=bo at h1 hbest;have hd:decide (((k+1:Nat):Int)=1)=true:=decide_eq_true byO;replace hk0:k<=0:=byO;have hd2:decide (((k:Nat):Int)+1=1)=true:=decide_eq_true byO;(try simp only[aC]);refine aW (t:=false) dP gW iw (fun h=>by cases h) (fun _=>?_);(try simp only[aC]);refine aW (t:=false) dP gW iw (fun h=>by cases h) (fun _=>?_);(try simp only[aC]);refine aN ?_ ?_<;>intro h
    ·clear h hd hd2
     refine aE ?_;refine⟨⟨⟨keepSet.ext hx13 byO,?_⟩,aF byO⟩,aJ ncM⟩;rw[aI byO];exact hz
    ·cases h
   ·have hB:fW cs a (k+1)=if bD cs (cW a (k+1))<bD cs (fW cs a k) then cW a (k+1) else fW cs a k:=by rw[fW,if_neg hk0]
    have hok2:=zU (cs:=cs) (N:=p.length) (at':=a) (n:=k) byO byO byO;rw[hB];clear hB;generalize cW a (k+1)=o at hgo hok;generalize fW cs a k=bo at h1 hbest hok2;have hd:decide (((k+1:Nat):Int)=1)=false:=decide_eq_false byO;have hd2:decide (((k:Nat):Int)+1=1)=false:=decide_eq_false byO;have hs3:=hs.ext hx13;have o1:=hok.sz;have o2:=hok.run;have o3:=hok.nx;have o4:=hok.md;have b1:=hok2.sz;have b2:=hok2.run;have b3:=hok2.nx;have b4:=hok2.md;clear hok hok2;(try simp only[aC]);refine aW (t:=true) dP gW iw (fun _=>⟨_,dP,?_⟩) (fun h=>by cases h);refine cU (Ih (o:=o) hs3 byO) ?_;rintro r H4 ⟨hx4,rfl⟩;have hs4:=hs3.ext hx4;(try simp only[aC]);refine aW (t:=true) dP gW iw (fun _=>⟨_,dP,?_⟩) (fun h=>by cases h);refine fD (Ih (o:=bo) hs4 byO) ?_;rintro r H5 ⟨hx5,rfl⟩;have hx35:=hx4.trans hx5;have hgo5:=hx35.get hgo;have hbest5:=hx35.get hbest;have hz5:=hx35.get hz;have hl5:=hx35.1;clear hs3 hs4 hgo hbest hz;generalize bD cs o=t1;generalize bD cs bo=t2;(try simp only[aC]);by_cases ht:t1<t2
    ·have hdt:decide ((t1:Int)<(t2:Nat))=true:=decide_eq_true byO
     rw[if_pos ht];refine aN ?_ ?_<;>intro h
     ·clear h hdt
      refine aE ?_;refine⟨⟨⟨keepSet.ext (hx13.trans hx35) byO,?_⟩,aF byO⟩,aJ ncM⟩;rw[aI byO];exact hz5
     ·simp at h
    ·have hdt:decide ((t1:Int)<(t2:Nat))=false:=decide_eq_false byO
     rw[if_neg ht];refine aN ?_ ?_<;>intro h
     ·simp at h
     ·clear h hdt
      refine aE ?_;exact⟨⟨⟨hx13.trans hx35,hz5⟩,hbest5⟩,aJ ncM⟩
 ·rintro S H1 ⟨⟨⟨hx1,h0⟩,h1⟩,z,rfl⟩
  have hl1:=hx1.1;have hll:=Heap.get_lt h0;have hb:uG p cs a=fW cs a (min (p.length-a) 1749):=rfl;rw[hb];generalize fW cs a (min (p.length-a) 1749)=o at h1;generalize min (p.length-a) 1749=m;refine aE ?_;refine dB ?_;exact⟨keepSet.ext hx1 (Nat.le_refl _),rfl⟩
end
end Go.Proofs.YtmnlgdpdgjbfgaaGreat
