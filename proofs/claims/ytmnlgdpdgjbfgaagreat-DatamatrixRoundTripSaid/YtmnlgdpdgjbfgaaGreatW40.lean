/- Lemmas. -/
import Derived.Test.YtmnlgdpdgjbfgaaGreatW28
import Derived.Test.YtmnlgdpdgjbfgaaGreatW29
import Derived.Test.YtmnlgdpdgjbfgaaGreatW38
import Derived.Test.YtmnlgdpdgjbfgaaGreatW39
set_option linter.all false
namespace Go.Proofs.YtmnlgdpdgjbfgaaGreat
open Go.Abs
theorem CR{l:List Int}{i:Nat}(h:i<l.length)(a b:Int):l.getD i a=l.getD i b:=by
 simp[au₀,bc₀ h]
theorem Dg{x n:Nat}(hx:x<256):Br (x:Int) (n:Int)=x.testBit (7-n%8):=by
 rw[Hk byO byO byO,Nat.testBit_eq_decide_div_mod_eq];have e:(7-(n:Int).tmod 8).toNat=7-n%8:=by
  rw[Int.tmod_eq_emod_of_nonneg byO];omega
 rw[e,show IntKind.i64.bits=64 from rfl,Nat.min_eq_left byO];have hc:((2:Int)^(7-n%8))=((2^(7-n%8):Nat):Int):=by simp
 rw[hc];generalize 2^(7-n%8)=p;rw[Int.fdiv_eq_ediv_of_nonneg _ byO,<-Int.natCast_ediv];generalize x/p=y;rw[Int.tmod_eq_emod_of_nonneg byO];congr 1;rw[eq_iff_iff];omega
theorem yL{R rr K A:Int}(hR:R=K*(rr+2))(hrr:0<rr)(h0:0<=A)(h1:A<K*rr):∃x:Int,0<=x/\x<R/\x.tdiv (rr+2)*rr+x.tmod (rr+2)-1=A/\¬ x.tmod (rr+2)=0/\¬ x.tmod (rr+2)=rr+1:=by
 have e:=Int.mul_ediv_add_emod A rr;have m0:=Int.emod_nonneg A (show rr≠0 by omega);have m1:=Int.emod_lt_of_pos A (show 0<rr by omega);have d0:0<=A/rr:=Int.ediv_nonneg h0 byO;have d1:A/rr<K:=Int.ediv_lt_of_lt_mul byO h1;generalize A/rr=q at *;generalize A%rr=m at *;have p0:0<=q*(rr+2):=Int.mul_nonneg d0 byO;have p1:(q+1)*(rr+2)<=K*(rr+2):=Int.mul_le_mul_of_nonneg_right byO byO;rw[Int.add_mul,Int.one_mul]at p1;refine⟨q*(rr+2)+(m+1),byO,byO,?_⟩;have hx0:0<=q*(rr+2)+(m+1):=byO;rw[Int.tdiv_eq_ediv_of_nonneg hx0,Int.tmod_eq_emod_of_nonneg hx0];have hd:(q*(rr+2)+(m+1))/(rr+2)=q:=by
  rw[Int.add_comm,Int.add_mul_ediv_right _ _ byO,Int.ediv_eq_zero_of_lt byO byO];omega
 have hm:(q*(rr+2)+(m+1))%(rr+2)=m+1:=by
  rw[Int.add_comm,Int.add_mul_emod_self_right,Int.emod_eq_of_lt byO byO]
 rw[hd,hm,Int.mul_comm q rr];omega
theorem Ix{s:Sz}(hs:SzOK s)(hf:SzFit s){a:Nat}(ha:(a:Int)<fg s*eA s):∃k:Nat,(k:Int)<s.r*s.c/\iH s ((k:Int).tdiv s.c) ((k:Int).tmod s.c)=false/\dU s ((k:Int).tdiv s.c) ((k:Int).tmod s.c)=a:=by
 have hmb:=kN hs;obtain⟨r0,r1,c0,c1,rr0,rr1,rc0,rc1,_⟩:=hs;have hC:0<eA s:=by
  rcases Int.lt_or_eq_of_le hmb.2.2.1 with h|h
  ·exact h
  ·rw[<-h,Int.mul_zero]at ha;omega
 have e:=Int.mul_ediv_add_emod (a:Int) (eA s);have m0:=Int.emod_nonneg (a:Int) (show eA s≠0 by omega);have m1:=Int.emod_lt_of_pos (a:Int) hC;have d0:0<=(a:Int)/eA s:=Int.ediv_nonneg byO byO;have d1:(a:Int)/eA s<fg s:=Int.ediv_lt_of_lt_mul hC ha;obtain⟨row,x0,x1,x2,x3,x4⟩:=yL hf.hr byO d0 d1;obtain⟨col,y0,y1,y2,y3,y4⟩:=yL hf.hc byO m0 m1;obtain⟨y,rfl⟩:=Int.eq_ofNat_of_zero_le x0;obtain⟨x,rfl⟩:=Int.eq_ofNat_of_zero_le y0;obtain⟨C,hCC⟩:∃C:Nat,(C:Int)=s.c:=⟨s.c.toNat,byO⟩;have hd:=OX (C:=C) (x:=x) (y:=y) byO;rw[hCC]at hd;have hB:iH s (y:Int) (x:Int)=false:=by
  unfold iH lr lc;rw[decide_eq_false y3,decide_eq_false x4,decide_eq_false x3,decide_eq_false y4];rfl
 refine⟨y*C+x,?_,?_,?_⟩
 ·have:((y:Int)+1)*s.c<=s.r*s.c:=Int.mul_le_mul_of_nonneg_right byO byO
  rw[Int.add_mul]at this;rw[ap₀,Int.natCast_mul,hCC];omega
 ·rw[hd.1,hd.2];exact hB
 ·rw[hd.1,hd.2,vX hB]
  show((y:Int).tdiv (s.rr+2)*s.rr+(y:Int).tmod (s.rr+2)-1)*eA s+((x:Int).tdiv (s.rc+2)*s.rc+(x:Int).tmod (s.rc+2)-1)=a;rw[x2,y2,Int.mul_comm];exact e
theorem OZ{s:Sz}{gf:G}{ws:List Int}(hs:s ∈ szs)(hso:SizeOrd s gf)(hlen:(ws.length:Int)=s.d+s.k)(hbw:du ws=false) :
  WB (s.d+s.k).toNat (seen (exP s gf.cells (c8 s gf.cells ws (s.r*s.c).toNat)) (s.r*s.c).toNat) ws:=by
 have hok:=pY s hs;refine⟨byO,fun j hj=>?_⟩;have hjl:j<ws.length:=byO;have hb:=DO hbw hjl;obtain⟨x,hx⟩:=Int.eq_ofNat_of_zero_le hb.1;refine⟨x,byO,hx,fun b hb8=>?_⟩;obtain⟨a,ha,hav⟩:=hso.od.sur (8*j+b) byO;have hrc0:0<=fg s*eA s:=Int.mul_nonneg (kN hok).1 (kN hok).2.2.1;obtain⟨k,hk,hkB,hkI⟩:=Ix hok (qf s hs) (a:=a) byO;have hgd:gf.cells.getD a 0=gf.cells.getD a (-1):=by
  have:=hso.od.len;simp[au₀,bc₀ (show a<gf.cells.length by omega)]
 have hmod:fy s gf.cells ws k=x.testBit (7-b):=by
  unfold fy;rw[hkB,hkI,Int.toNat_natCast,hgd,hav];simp only[ah₀,if_false];have hq:(((8*j+b:Nat):Int).tdiv 8).toNat=j:=by rw[Int.tdiv_eq_ediv_of_nonneg byO];omega
  rw[if_pos byO,hq,hx,Dg byO,show(8*j+b)%8=b by omega]
 have hkN:k<(s.r*s.c).toNat:=byO;rw[<-hmod,Bool.eq_iff_iff,DE];have hdk:(c8 s gf.cells ws (s.r*s.c).toNat).getD k false=fy s gf.cells ws k:=sE hkN;have hexk:fy s gf.cells ws k=true->exP s gf.cells (c8 s gf.cells ws (s.r*s.c).toNat) k=some (8*j+b):=by
  intro h;unfold exP;rw[hkB,hkI,Int.toNat_natCast,hgd,hav,hdk,h];simp;omega
 constructor
 ·intro h
  exact⟨k,hkN,hexk h⟩
 ·rintro⟨k',hk',he⟩
  have hk'2:(k':Int)<s.r*s.c:=byO;have he2:=he;unfold exP at he;split at he
  ·simp at he
  rename_i hB';simp only[Bool.not_eq_true]at hB';split at he
  ·rename_i hc
   simp only[ab₀]at he;have hl':=hso.loc k' hk'2 hB';have hg':gf.cells.getD (dU s ((k':Int).tdiv s.c) ((k':Int).tmod s.c)).toNat 0=gf.cells.getD (dU s ((k':Int).tdiv s.c) ((k':Int).tmod s.c)).toNat (-1):=by
    have:=hso.od.len;exact CR byO _ _
   have:=hso.od.inj a (dU s ((k':Int).tdiv s.c) ((k':Int).tmod s.c)).toNat ha byO byO (by rw[<-hg'];omega);have hkk:k=k':=Ax hok (qf s hs) hk hk'2 hkB hB' byO;subst hkk;rw[<-hdk];exact hc.2
  ·simp at he
theorem CN{s:Sz}(hs:s ∈ szs):gk s.c s.r=some s:=by
 cases hf:gk s.c s.r with
 | none=>
  have:=List.find?_eq_none.1 hf s hs;simp[tK]at this
 | some t=>
  obtain⟨h1,h2,h3⟩:=tv hf;rw[HA t h1 s hs h2 h3]
theorem AR{s:Sz}(hs:s ∈ szs):jC s.c s.r (s.r*s.c).toNat=true:=by
 obtain⟨r0,r1,c0,c1,_⟩:=pY s hs;have hm:=eK (a:=s.c) (b:=s.r) (A:=200) (B:=200) byO byO byO byO byO;have hm0:0<=s.c*s.r:=Int.mul_nonneg byO byO;unfold jC;rw[eV byO byO,Int.mul_comm s.r s.c];simp only[ac₀,af₀];omega
theorem GK{s:Sz}{o ws:List Int}{n:Nat}:fX s (c8 s o ws n) n=false:=by
 unfold fX;rw[List.any_eq_false];intro k hk;have hk:k<n:=by simpa using hk
 rw[sE hk];unfold fy;split
 ·simp
 ·rename_i h;rw[Bool.eq_false_iff.2 h];simp
open Go.Abs Go.RS
set_option maxRecDepth 20000
theorem En{n:Int}{sq:Bool}(hn:1<=n):∀(l:List Sz) (best:Sz),(∀s ∈ l,s ∈ szs)->(best ∈ szs/\n<=best.d\/best.d=0/\∃t ∈ l,(sq=true->t.r=t.c)/\n<=t.d)->(l.foldl (jJ n sq) best) ∈ szs/\n<=(l.foldl (jJ n sq) best).d
 | [],best,_,h=>by
  rcases h with h|⟨_,t,ht,_⟩
  ·exact h
  ·cases ht
 | s::l,best,hl,h=>by
  have hs:=hl s (List.mem_cons_self ..);refine En hn l _ (fun t ht=>hl t (List.mem_cons_of_mem _ ht)) ?_;unfold jJ;rcases h with ⟨h1,h2⟩|⟨h0,t,ht,ht1,ht2⟩
  ·split
   ·exact .inl ⟨h1,h2⟩
   ·rename_i hc
    split
    ·exact .inl ⟨hs,byO⟩
    ·exact .inl ⟨h1,h2⟩
  ·split
   ·rename_i hc
    rcases List.mem_cons.1 ht with rfl|ht
    ·rcases hc with ⟨a,b⟩|b
     ·exact absurd (ht1 a) b
     ·omega
    ·exact .inr ⟨h0,t,ht,ht1,ht2⟩
   ·rename_i hc
    rw[if_pos (.inl h0)];exact .inl ⟨hs,byO⟩
theorem Mk{n:Int}{sq:Bool}(h1:1<=n)(h2:n<=1558):∃s,zP n sq=(s,0)/\s ∈ szs/\n<=s.d:=by
 unfold zP;rw[if_neg byO,if_neg byO];have hl:szs.take 30=szs:=List.take_of_length_le (by rw[gN];exact Nat.le_refl _);have:=En (sq:=sq) h1 szs Sz.zero (fun s h=>h) (.inr ⟨rfl,⟨144,144,22,22,1558,620,10⟩,by decide,fun _=>rfl,h2⟩);refine⟨_,rfl,?_⟩;unfold fF;rw[hl];exact this
def KN(p:List UInt8)(i:Nat)(e:List (El F1))(gf:G):Prop:=
 i<30/\e.length=(dz i).d/\CE (eH e)=.inr p/\SizeOrd (dz i).sz gf/\∀x,x<(dz i).n->IsEnc g1 (dz i).ck 1 (ft e 0 (dz i).n x) ((dz i).W e x)
noncomputable def mtB(i:Nat)(e:List (El F1))(gf:G):List Bool:=c8 (dz i).sz gf.cells (ilv (dz i).n ((dz i).W e) ((dz i).d+(dz i).c)) ((dz i).sz.r*(dz i).sz.c).toNat
theorem KC{l:List Nat}(h:∀x ∈ l,x<=255):eH (l.map (eB 301))=zI l:=by
 unfold eH zI;rw[List.map_map];refine List.map_congr_left fun x hx=>?_;have:=h x hx;show(((eB 301 x).val:Nat):Int)=(x:Int);show((x%256:Nat):Int)=(x:Int);omega
namespace XZa
def xtr:=zzi @Sz.cells.eq_1 (zzi @Sz.val.eq_1 (zzi @Int.cast_ofNat_Int @ite_self.{1}))
end XZa
open XZa
theorem Ru{lo:Nat}{H:Heap}{v:Value}{p:List UInt8}{sq:Bool}(hp:SlU H v p)(hl:p.length<=300)(hlo:lo<=H.length) :
  Ev cp lo 18 [v,.bool sq] H (fun r H'=>Ext H H'/\∃i e gf q,KN p i e gf/\r=.tuple #[.agg #[.int .i64 (dz i).sz.c,.int .i64 (dz i).sz.r,.slice (some ⟨q,0,none⟩) ((dz i).sz.r*(dz i).sz.c).toNat ((dz i).sz.r*(dz i).sz.c).toNat],.int .i64 0]/\H'.get q=some (gS (mtB i e gf))):=by
 obtain⟨ad,c0,rfl⟩:=hp.len;refine stG rfl rfl ?_;unfold PF;simp only[kB,aC];refine mf ?_;refine tF ?_;refine aA (Rv (p:=p) (hp.mono (Ext.app _ _)) byO (by simp;omega)) ?_;rintro r H1 ⟨hx1,u,cs,hn,rfl,hu⟩;have g0:H1.get H.length=some _:=hx1.get pb;have hx1:=hx1.of_app;have hl1:=Heap.get_lt g0;have hs:=BH hn;have hel:=IT hs byO;have hle:=Me hs byO;have hdec:=fun m=>IC hs (show p.length<=4096 by omega) (ws:=zr (oG p cs) m) (Ck _ _);have hcl:cst cs 0 0<=303:=by
  by_cases h1:1<=p.length
  ·have:=EK hs h1 byO
   split at this<;>omega
  ·rw[EL hs byO];omega
 clear hn hs;generalize oG p cs=E at *;have hE:E.length<=303:=byO;clear hel hcl;have hu2:=CI hu;obtain⟨au,cu,rfl⟩:=hu.len;obtain⟨s,hfit,hsz,hd⟩:=Mk (n:=((max E.length 1:Nat):Int)) (sq:=sq) byO byO;have hf:=QG (lo:=lo) (H:=H1) ((max E.length 1:Nat):Int) sq byO;rw[hfit]at hf;obtain⟨i,hi,rfl⟩:=mV.1 hsz;have hz:=tj hi;have hdn:max E.length 1<=(dz i).d:=by
  have:((max E.length 1:Nat):Int)<=((dz i).d:Int):=hd;omega
 obtain⟨m,hm⟩:∃m,(dz i).d=E.length+m:=⟨(dz i).d-E.length,byO⟩;have hmx:(if (1:Int)>((E.length:Nat):Int) then(1:Int) else((E.length:Nat):Int))=((max E.length 1:Nat):Int):=by split<;>omega
 have hd2:=hz.d2;have hpd:=JZ (m:=m) hle byO;have hdm:(dz i).sz.d=((E.length:Nat):Int)+(m:Nat):=by show((dz i).d:Int)=_;omega
 have hpl:(gu (zI E) m).length=(dz i).d:=by rw[lW,hm];simp[zI]
 have hdecW:=M9 (BQ (m:=m) hle) (by unfold zr;simp;omega) (hdec m);have hw255:=BQ (m:=m) hle;have hvE:=KC hw255;obtain⟨e,he⟩:∃e,e=(zr E m).map (eB 301):=⟨_,rfl⟩;rw[<-he]at hvE;rw[<-hvE]at hdecW;have hpv:gu (zI E) m=eH e:=by rw[JX,hvE]
 have hele:e.length=(dz i).d:=by rw[<-hpl,hpv,dW]
 rw[hpv]at hpd;have hchk:kr (dz i).sz (eH e) (dz i).sz.d=0:=uz hsz (by rw[dW,hele];rfl) (ij (f:=F1) e);clear hpl hpv hw255 hvE he hd hdec hle;obtain⟨gf0,hso0⟩:=AO _ hsz;have hu3:SlI H1 (.slice au E.length cu) (zI E):=hu2;clear hu hu2 hfit hp;generalize hsv:(dz i).sz=s at *;replace hsv:False\/_:=.inr hsv;replace hchk:False\/_:=.inr hchk;have hm2:m<=1558:=byO;replace hm:False\/_:=.inr hm;replace hele:False\/_:=.inr hele;replace hdn:False\/_:=.inr hdn;obtain⟨sr,sc,srr,src,sd,sk,sb⟩:=s;simp only at hdm;replace hdm:False\/_:=.inr hdm;refine mf ?_;refine ye ?_ ?_<;>intro h
 ·simp at h
 clear h;(try simp only[aC]);refine tF ?_;refine aA hf ?_;rintro r H2 ⟨hx2,rfl⟩;clear hf;have g0:=hx2.get g0;have hn5:H.length≠H2.length:=by have:=Heap.get_lt g0;omega
 replace hn5:False\/_:=.inr hn5;have hx12:=hx1.trans hx2;have hl2:=hx12.1;have hu3:=hu3.mono hx2;clear hx1 hx2;refine mf ?_;have g6:Heap.get (H2++[some [Value.int .i64 sr,.int .i64 sc,.int .i64 srr,.int .i64 src,.int .i64 sd,.int .i64 sk,.int .i64 sb]]) H2.length=some [Value.int .i64 sr,.int .i64 sc,.int .i64 srr,.int .i64 src,.int .i64 sd,.int .i64 sk,.int .i64 sb]:=aH;have hE2:=Ext.app H2 [some [Value.int .i64 sr,.int .i64 sc,.int .i64 srr,.int .i64 src,.int .i64 sd,.int .i64 sk,.int .i64 sb]];have g0:=hE2.get g0;have hu3:=hu3.mono hE2;have hx13:=hx12.trans hE2;have hl3:=hx13.1;clear hx12 hE2;have hq6:H2.length<(H2++[some [Value.int .i64 sr,.int .i64 sc,.int .i64 srr,.int .i64 src,.int .i64 sd,.int .i64 sk,.int .i64 sb]]).length:=by simp
 generalize H2++[some [Value.int .i64 sr,.int .i64 sc,.int .i64 srr,.int .i64 src,.int .i64 sd,.int .i64 sk,.int .i64 sb]]=K3 at *;generalize H2.length=b6 at *;have hpad:=Sk (lo:=lo) (H:=K3) (v:=.slice au E.length cu) (l:=zI E) (n:=sd) hu3 (by simp[zI];omega) (by rw[hdm.resolve_left id];exact⟨by show(-9223372036854775808:Int)<=_;omega,by show _<=(9223372036854775807:Int);omega⟩) byO;rw[show Cj (zI E) sd=.inr (eH e) by rw[hdm.resolve_left id];exact hpd]at hpad;clear hpd hu3;(try simp only[aC]);refine ye ?_ ?_<;>intro h
 ·simp at h
 clear h;(try simp only[aC]);refine tF ?_;refine aA hpad ?_;rintro r K4 ⟨hx4,w,rfl,hw⟩;clear hpad;have g0:=hx4.get g0;have g6:=hx4.get g6;have hx14:=hx13.trans hx4;have hl4:=hx14.1;clear hx13 hx4;obtain⟨aw,cw,rfl⟩:=hw.len;have hvl:(eH e).length<=1000000000:=by rw[dW,hele.resolve_left id];omega
 have hprot:=Qj (lo:=lo) (H:=K4) (s:=⟨sr,sc,srr,src,sd,sk,sb⟩) hw hvl byO;refine mf ?_;refine ye ?_ ?_<;>intro h
 ·simp at h
 clear h;(try simp only[aC]);refine tF ?_;refine aA hprot ?_;rintro r K5 ⟨hx5,-,hpr⟩;clear hprot;obtain⟨b,hb,rfl,hgb,henc⟩:=hpr i hi (hsv.resolve_left id).symm e rfl (hele.resolve_left id);clear hpr hw;have g0:=hx5.get g0;have g6:=hx5.get g6;have hx15:=hx14.trans hx5;have hl5:=hx15.1;clear hx14 hx5;have hWl:(ilv (dz i).n ((dz i).W e) ((dz i).d+(dz i).c)).length=(dz i).d+(dz i).c:=mE _ _ _;have hwords:Words K5 (.slice (some ⟨b,0,none⟩) ((dz i).d+(dz i).c) ((dz i).d+(dz i).c)) (ilv (dz i).n ((dz i).W e) ((dz i).d+(dz i).c)):=.inr ⟨b,_,_,by rw[hWl],hgb,fun _ _=>rfl,Nat.le_refl _⟩;have hpl:=J3 (lo:=lo) (H:=K5) (s:=⟨sr,sc,srr,src,sd,sk,sb⟩) byO hwords (fun _=>⟨gf0,hso0⟩);have hbw:du (ilv (dz i).n ((dz i).W e) ((dz i).d+(dz i).c))=false:=by
  unfold du;rw[List.any_eq_false];intro x hx;unfold ilv at hx;obtain⟨j,-,rfl⟩:=List.mem_map.1 hx;have:=El.lt (co ((dz i).W e (j%(dz i).n)) (j/(dz i).n));have h256:F1.q=256:=rfl;simp;omega
 have hV2:ilv (dz i).n ((dz i).W e) ((dz i).d+(dz i).c)=ilv (dz i).n ((dz i).W e) ((dz i).d+(dz i).c):=rfl;replace hV2:False\/_:=.inr hV2;obtain⟨V,hV⟩:∃V,V=ilv (dz i).n ((dz i).W e) ((dz i).d+(dz i).c):=⟨_,rfl⟩;rw[<-hV]at hWl hbw hpl hgb;replace hV2:False\/_:=.inr hV.symm;clear hV;have hNe:False\/(dz i).d+(dz i).c=(dz i).d+(dz i).c:=.inr rfl;replace hele:False\/_:=hele;have hNc:((dz i).d+(dz i).c:Nat)<=3000:=by have:=hz.c2;omega
 clear hwords hgb;obtain⟨N,hN⟩:∃N,N=(dz i).d+(dz i).c:=⟨_,rfl⟩;rw[<-hN]at hWl hpl hNc ⊢;replace hNe:False\/_:=.inr hN.symm;clear hN;refine mf ?_;refine ye ?_ ?_<;>intro h
 ·simp at h
 clear h;(try simp only[aC]);refine tF ?_;refine aA hpl ?_;rintro r K6 ⟨hx6,hcs⟩;clear hpl;have hsd:sd=((dz i).d:Int):=(congrArg Sz.d (hsv.resolve_left id)).symm;have hsk:sk=((dz i).c:Int):=(congrArg Sz.k (hsv.resolve_left id)).symm;rcases hcs with ⟨h1,-⟩|⟨-,h2,-⟩|⟨-,-,h3,-⟩|⟨-,-,-,gf,q,hso,hq,rfl,hgq⟩
 ·exact absurd hsz h1
 ·exact absurd (by rw[hWl,<-hNe.resolve_left id];show(((dz i).d+(dz i).c:Nat):Int)=sd+sk;omega) h2
 ·rw[hbw]at h3;cases h3
 have hqn:H.length<q:=by have:=Heap.get_lt g0;omega
 have g0:=hx6.get g0;have hx16:=hx15.trans hx6;have hl6:=hx16.1;clear hx15 hx6 g6;replace hsd:False\/_:=.inr hsd;replace hsk:False\/_:=.inr hsk;have hH0:=Heap.get_lt g0;generalize hnq:(sr*sc).toNat=nq at *;replace hnq:False\/_:=.inr hnq;refine mf ?_;refine KJ ?_;refine⟨hx16.set byO,i,e,gf,q,⟨hi,hele.resolve_left id,hdecW,?_,henc⟩,?_,?_⟩
 ·rw[hsv.resolve_left id];exact hso
 ·rw[hsv.resolve_left id];show _=Value.tuple #[.agg #[.int .i64 sc,.int .i64 sr,.slice (some ⟨q,0,none⟩) (sr*sc).toNat (sr*sc).toNat],.int .i64 0]
  rw[hnq.resolve_left id];rfl
 ·rw[aF byO]
  unfold mtB;rw[hsv.resolve_left id,hV2.resolve_left id];show _=some (gS (c8 ⟨sr,sc,srr,src,sd,sk,sb⟩ gf.cells V (sr*sc).toNat));rw[hnq.resolve_left id];exact hgq
open Go.Abs Go.RS
theorem zc{n N:Nat}{W:Nat->List (El F1)}{x:Int}(hx:x ∈ ilv n W N):0<=x/\x<256:=by
 unfold ilv at hx;obtain⟨j,-,rfl⟩:=List.mem_map.1 hx;have:=El.lt (co (W (j%n)) (j/n));have h256:F1.q=256:=rfl;omega
theorem Rl{lo:Nat}{H:Heap}{vd:Value}{p:List UInt8}{i:Nat}{e:List (El F1)}{gf:G}(hm:KN p i e gf)(hd:SlB H vd (mtB i e gf))(hlo:lo<=H.length) :
  Ev cp lo 21 [.agg #[.int .i64 (dz i).sz.c,.int .i64 (dz i).sz.r,vd]] H (fun r H'=>Ext H H'/\∃u,r=.tuple #[u,.int .i64 0,.int .i64 0]/\SlU H' u p):=by
 obtain⟨hi,hel,hdec,hso,henc⟩:=hm;have hsm:(dz i).sz ∈ szs:=mV.2 ⟨i,hi,rfl⟩;have hz:=tj hi;have hWl:(ilv (dz i).n ((dz i).W e) ((dz i).d+(dz i).c)).length=(dz i).d+(dz i).c:=mE _ _ _;have hbw:du (ilv (dz i).n ((dz i).W e) ((dz i).d+(dz i).c))=false:=by
  unfold du;rw[List.any_eq_false];intro x hx;have:=zc hx;simp;omega
 have hrd:=OZ (ws:=ilv (dz i).n ((dz i).W e) ((dz i).d+(dz i).c)) hsm hso (by rw[hWl];show(((dz i).d+(dz i).c:Nat):Int)=((dz i).d:Int)+((dz i).c:Int);omega) hbw;have hml:(mtB i e gf).length=((dz i).sz.r*(dz i).sz.c).toNat:=qC;have hin:inF 256 (ilv (dz i).n ((dz i).W e) ((dz i).d+(dz i).c))=true:=iE.2 fun x hx=>zc hx;have hsp:=DH hz hel henc (out:=ilv (dz i).n ((dz i).W e) ((dz i).d+(dz i).c)) hWl (fun j hj=>by
  have:=zc (n:=(dz i).n) (W:=(dz i).W e) (N:=(dz i).d+(dz i).c) (x:=(ilv (dz i).n ((dz i).W e) ((dz i).d+(dz i).c)).getD j 0) (by rw[au₀,bc₀ (by rw[hWl];exact hj)];exact List.getElem_mem _);omega) (fun x _=>by rw[xN];omega)
 rw[E6]at hsp;obtain⟨hok,hn0,hfx⟩:=hsp;have hext:=fun(K:Heap) (h1:lo<=K.length) (h2:Ext H K)=>CM (lo:=lo) (H:=K) (vd:=vd) (dk:=mtB i e gf) (w:=(dz i).sz.c) (u:=(dz i).sz.r) h1 (hd.mono h2);have hfs:=CN hsm;have hvs:=AR hsm;have hpat:fX (dz i).sz (mtB i e gf) (mtB i e gf).length=false:=by rw[hml];exact GK
 have hws:=wa hi;have hcorr:=fun(K:Heap) (v:Value) (h1:lo<=K.length) (h2:SlI K v (ilv (dz i).n ((dz i).W e) ((dz i).d+(dz i).c)))=>Pn (lo:=lo) (H:=K) (s:=(dz i).sz) h2 (by rw[hWl];have:=hz.d2;have:=hz.c2;omega) h1;have hout:∀{K:Heap} {r:Value},DV (dz i).sz.c (dz i).sz.r (mtB i e gf) K r->∃v,r=.tuple #[v,(dz i).sz.val,.int .i64 0]/\SlI K v (ilv (dz i).n ((dz i).W e) ((dz i).d+(dz i).c)):=by
  intro K r ho;rcases ho with ⟨k1,_⟩|⟨_,k2,_⟩|⟨_,t,k2,k3,_⟩|⟨_,t,gf',v',xs,k2,k3,k4,k5,rfl,k6⟩
  ·rw[hml,hvs]at k1;cases k1
  ·rw[hfs]at k2;cases k2
  ·rw[hfs]at k2;cases k2;rw[hpat]at k3;cases k3
  rw[hfs]at k2;cases k2;have ee:=hso.ord;rw[k3.ord]at ee;cases ee;rw[hml]at k5;have:=k5.uniq hrd;subst this;exact⟨_,rfl,k6.sli⟩
 have hcr:∀{N:Nat} {K:Heap} {r:Value},qg (dz i).sz (ilv (dz i).n ((dz i).W e) ((dz i).d+(dz i).c)) N K r->∃b,r=.tuple #[.slice (some ⟨b,0,none⟩) (dz i).d (dz i).d,.int .i64 0,.int .i64 0]/\K.get b=some (ak (eH e)):=by
  intro N K r hc;obtain⟨b,-,h2,h3⟩:=(hc.2 i hi rfl hWl hin).2 hok;rw[hn0]at h2;rw[hfx]at h3;exact⟨b,h2,h3⟩
 have hdp:=fun(K:Heap) (b:Nat) (h1:lo<=K.length) (h2:K.get b=some (ak (eH e)))=>Rm (lo:=lo) (H:=K) (v:=.slice (some ⟨b,0,none⟩) (dz i).d (dz i).d) (l:=eH e) (Sl.whole h2 (by rw[dW,hel])) (by rw[dW,hel];have:=hz.d2;omega) h1;rw[hdec]at hdp;clear hsm hz hWl hbw hrd hin hok hn0 hfx hfs hvs hpat hws hso henc hdec hel hml;generalize ilv (dz i).n ((dz i).W e) ((dz i).d+(dz i).c)=V at *;generalize mtB i e gf=dk at *;generalize eH e=ve at *;generalize (dz i).d=nd at *;generalize (dz i).sz=s at *;obtain⟨sr,sc,srr,src,sd,sk,sb⟩:=s;obtain⟨ad,c0,rfl⟩:=hd.len;clear hd;replace hext:False\/_:=.inr hext;replace hcorr:False\/_:=.inr hcorr;replace hdp:False\/_:=.inr hdp;refine stG rfl rfl ?_;unfold PG;simp only[kB,aC];refine mf ?_;refine tF ?_;refine aA (hext.resolve_left id _ (by simp;omega) (Ext.app _ _)) ?_;rintro r H1 ⟨hx1,ho⟩;obtain⟨v,rfl,hv⟩:=hout ho;have hx1:=hx1.of_app;have hl1:=hx1.1;obtain⟨av,cv,rfl⟩:=hv.len;refine mf ?_;have g6:Heap.get (H1++[some [Value.int .i64 sr,.int .i64 sc,.int .i64 srr,.int .i64 src,.int .i64 sd,.int .i64 sk,.int .i64 sb]]) H1.length=some [Value.int .i64 sr,.int .i64 sc,.int .i64 srr,.int .i64 src,.int .i64 sd,.int .i64 sk,.int .i64 sb]:=aH;have hE:=Ext.app H1 [some [Value.int .i64 sr,.int .i64 sc,.int .i64 srr,.int .i64 src,.int .i64 sd,.int .i64 sk,.int .i64 sb]];have hv:=hv.mono hE;have hx2:=hx1.trans hE;have hl2:=hx2.1;clear hE hx1 ho hout;generalize H1++[some [Value.int .i64 sr,.int .i64 sc,.int .i64 srr,.int .i64 src,.int .i64 sd,.int .i64 sk,.int .i64 sb]]=K at *;generalize H1.length=b1 at *;have hc:=hcorr.resolve_left id K _ byO hv;clear hv hext;refine ye ?_ ?_<;>intro h
 ·simp at h
 clear h;(try simp only[aC]);refine tF ?_;refine aA hc ?_;rintro r H3 ⟨hx3,hc3⟩;obtain⟨b,rfl,hgb⟩:=hcr hc3;clear hc hc3 hcr;have hx3:=hx2.trans hx3;have hl3:=hx3.1;have hd3:=hdp.resolve_left id H3 b byO hgb;clear hgb hx2;refine mf ?_;refine ye ?_ ?_<;>intro h
 ·simp at h
 clear h;(try simp only[aC]);refine tF ?_;refine aA hd3 ?_;rintro r H4 ⟨hx4,u,rfl,hu⟩;clear hd3;refine mf ?_;refine ye ?_ ?_<;>intro h
 ·simp at h
 clear h;refine mf ?_;refine KJ ?_;exact⟨hx3.trans hx4,u,rfl,hu⟩
end Go.Proofs.YtmnlgdpdgjbfgaaGreat
