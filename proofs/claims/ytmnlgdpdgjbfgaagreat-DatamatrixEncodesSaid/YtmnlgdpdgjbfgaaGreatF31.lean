/- Lemmas. -/
import Derived.Test.YtmnlgdpdgjbfgaaGreatF18
import Derived.Test.YtmnlgdpdgjbfgaaGreatF19
import Derived.Test.YtmnlgdpdgjbfgaaGreatF24
import Derived.Test.YtmnlgdpdgjbfgaaGreatF30
set_option linter.all false
namespace Go.Proofs.YtmnlgdpdgjbfgaaGreat
open Go.Abs
variable{p:List UInt8}
set_option maxRecDepth 20000
section
variable {ws:List Nat}{p:List UInt8}{m:Nat}
theorem Ja{a n:Nat}(h1:1<=n)(h2:n<=1749)(h3:a+n<=p.length):dC a n ∈ iI p a 0:=by
 unfold iI ji;rw[if_pos rfl,if_pos byO];exact List.mem_append_right _ (List.mem_append_right _ (ft.2 ⟨n,h1,h2,h3,rfl⟩))
end
theorem yr{a n:Nat}(h:a+n<=p.length):(tV p a n).length=n:=by grind[tV]
theorem FA{k a:Nat}{o:Opt}(hz:1<=o.sz/\o.sz<=3)(h:a+o.run<=p.length):(emit p k a o).length=o.sz+o.run:=by
 grind[emit,rq,nT,yr]
theorem C0{p:List UInt8}{c:List Nat}(hs:Sol p c):∀(f a st:Nat) (W:List Nat),a<=p.length->st<19->cst c a st<1073741824->cst c a st<f->(pt p c f a st W).length=W.length+cst c a st
 | 0,a,st,W,ha,hst,hc,hf=>by omega
 | f+1,a,st,W,ha,hst,hc,hf=>by
  rw[pt];split
  ·have:=(hs.row p.length (Nat.le_refl _)).fin rfl
   simp_all
  ·rename_i hfin
   obtain⟨hm,ht⟩:=zR hs ha hst hc hfin;have hok:=iY ha _ hm;have hr:a+(chs p c a st).run<=p.length:=by
    rcases yW _ hm with h|h
    ·omega
    ·have:=hok.nx.2;omega
   have e:bP c (chs p c a st)=(chs p c a st).sz+(chs p c a st).run+cst c (chs p c a st).nx (chs p c a st).md:=rfl;have hz:=hok.sz;rw[C0 hs f _ _ _ hok.nx.2 hok.md byO byO,as₀,FA hz hr];omega
theorem I0{c:List Nat}(hs:Sol p c)(hp:p.length<=4096):(kW p c).length=cst c 0 0:=by
 have:=lK hs p.length 0 byO
 grind[kW,C0]
set_option maxRecDepth 100000
theorem cpT:(List.range 128).all (fun n=>[false,true].all fun b=>(fi b (c9 b n).1 (c9 b n).2==n)&&((c9 b n).1 != 0 || decide (3<=(c9 b n).2))&&((c9 b n).1 != 2 || (c9 b n).2 != 30))=true:=by kernel_rfl
theorem Cf{b:Bool}{n:Nat}(h:n<128):fi b (c9 b n).1 (c9 b n).2=n/\((c9 b n).1=0->3<=(c9 b n).2)/\((c9 b n).1=2->(c9 b n).2≠30):=by
 have:=List.all_eq_true.1 (List.all_eq_true.1 cpT n (List.mem_range.2 h)) b (by cases b<;>simp);simp only[ac₀,ar₀,beq_iff_eq,bne_iff_ne,af₀]at this;refine⟨this.1.1,fun e=>?_,fun e=>?_⟩
 ·rcases this.1.2 with h|h
  ·exact absurd e h
  ·exact h
 ·rcases this.2 with h|h
  ·exact absurd e h
  ·exact h
theorem xpT:(List.range 256).all (fun n=>dL n==0 || lz (dL n-1)==n)=true:=by kernel_rfl
theorem tM{n:Nat}(h:n<256)(h0:dL n≠0):lz (dL n-1)=n:=by
 have:=List.all_eq_true.1 xpT n (List.mem_range.2 h);simpa[h0]using this
def gA(p:List UInt8)(a:Nat):Nat->Nat
 | 0=>0
 | i+1=>64*gA p a i+by' p (a+i)%64
def okC(p:List UInt8)(a j:Nat):Prop:=a+j<p.length/\32<=by' p (a+j)/\by' p (a+j)<=94
theorem BL{p:List UInt8}{a:Nat}:∀(k n:Nat) {o:Opt},n+k=4->o ∈ jA p a k n (gA p a n)->(∃i,n<=i/\i<4/\(∀j,n<=j->j<i->okC p a j)/\o=fu (64*gA p a i+31) (i+1) (a+i) 0)\/((∀j,n<=j->j<4->okC p a j)/\o=fu (gA p a 4) 4 (a+4) 18)
 | 0,n,o,h,ho=>by
  have:n=4:=byO;subst this;simp only[jA]at ho;exact .inr ⟨fun j h1 h2=>byO,List.mem_singleton.1 ho⟩
 | k+1,n,o,h,ho=>by
  simp only[jA]at ho;rcases List.mem_cons.1 ho with rfl|ho
  ·exact .inl ⟨n,Nat.le_refl _,byO,fun j h1 h2=>byO,rfl⟩
  ·split at ho
   ·rename_i hc
    rcases BL k (n+1) byO ho with ⟨i,h1,h2,h3,h4⟩|⟨h3,h4⟩
    ·refine .inl ⟨i,byO,h2,fun j hj1 hj2=>?_,h4⟩
     by_cases e:j=n
     ·subst e;exact hc
     ·exact h3 j byO hj2
    ·refine .inr ⟨fun j hj1 hj2=>?_,h4⟩
     by_cases e:j=n
     ·subst e;exact hc
     ·exact h3 j byO hj2
   ·cases ho
theorem mk_le:∀(k:Nat) (l:List Nat),∀x ∈ mk k l,x<=255
 | k,y::l,x,h=>by
  rcases List.mem_cons.1 h with rfl|h
  ·omega
  ·exact mk_le (k+1) l x h
theorem R3{o:Opt}(h:o.h0<=255/\o.h1<=255/\o.h2<=255):∀x ∈ hd o,x<=255:=by
 intro x hx;have:=List.mem_of_mem_take hx
 grind
theorem IZ{k a:Nat}{o:Opt}(h:o.h0<=255/\o.h1<=255/\o.h2<=255):∀x ∈ emit p k a o,x<=255:=by
 intro x hx;unfold emit at hx;split at hx
 ·exact R3 h x hx
 ·rcases List.mem_cons.1 hx with rfl|hx
  ·exact h.1
  ·exact mk_le _ _ x hx
theorem Hn{p:List UInt8}{c:List Nat}(hs:Sol p c):∀(f a st:Nat) (W:List Nat),a<=p.length->st<19->cst c a st<1073741824->(∀x ∈ W,x<=255)->∀x ∈ pt p c f a st W,x<=255
 | 0,a,st,W,ha,hst,hc,hW=>hW
 | f+1,a,st,W,ha,hst,hc,hW=>by
  rw[pt];split
  ·exact hW
  ·rename_i hfin
   obtain⟨hm,ht⟩:=zR hs ha hst hc hfin;have hok:=iY ha _ hm;have e:bP c (chs p c a st)=(chs p c a st).sz+(chs p c a st).run+cst c (chs p c a st).nx (chs p c a st).md:=rfl;refine Hn hs f _ _ _ hok.nx.2 hok.md byO fun x hx=>?_;rcases List.mem_append.1 hx with hx|hx
   ·exact hW x hx
   ·exact IZ hok.h x hx
theorem FF{c:List Nat}(hs:Sol p c)(hp:p.length<=4096):∀x ∈ kW p c,x<=255:=by
 have:=lK hs p.length 0 byO;exact Hn hs _ _ _ _ (Nat.zero_le _) byO byO (by simp)
abbrev zI(l:List Nat):List Int:=l.map (fun i:Nat=>(i:Int))
theorem RG{l:List Nat}(h:∀x ∈ l,x<=255):pI (zI l)=true:=by
 grind[pI]
theorem Jh{k i:Nat}:sR k i<=254:=by
 grind[sR]
def Ji(l:List Nat)(m:Nat):List Nat:=l++(List.range m).map fun j=>sR l.length (l.length+j)
theorem Jg(l:List Nat)(m:Nat):fA (zI l) m=zI (Ji l m):=by
 simp_all[fA,Ji]
theorem Jj{l:List Nat}{m:Nat}(h:∀x ∈ l,x<=255):∀x ∈ Ji l m,x<=255:=by
 intro x hx;rcases List.mem_append.1 hx with hx|hx
 all_goals grind[Jh]
theorem Bt{l:List Nat}{m:Nat}(h:∀x ∈ l,x<=255)(hl:l.length+m<=8192):wJ (zI l) ((l.length:Int)+(m:Nat))=.inr (fA (zI l) m):=by
 grind[wJ,RG]
theorem Ee{c:List Nat}(hs:Sol p c)(h1:1<=p.length)(h2:p.length<=1749):cst c 0 0<=p.length+(if p.length<250 then 2 else 3):=by
 have hm:=Ja (p:=p) (a:=0) (n:=p.length) h1 h2 byO;have e:(dC 0 p.length).sz=(if p.length<250 then 2 else 3)/\(dC 0 p.length).run=p.length/\(dC 0 p.length).md=0:=by unfold dC;split<;>simp
 have hp:=Pth.cons (p:=p) (a:=0) (st:=0) (m:=0) (Nat.zero_le _) byO hm (by rw[qa,e.2.2,Nat.zero_add];exact .nil);have:=BG hs hp;rw[e.1,e.2.1]at this;omega
theorem Ef{c:List Nat}(hs:Sol p c)(h:p.length=0):cst c 0 0=0:=by
 have:=(hs.row p.length (Nat.le_refl _)).fin rfl
 simp_all
open Go.Abs Go.RS
theorem FR{n:Int}{sq:Bool}(hn:1<=n):∀(l:List Sz) (best:Sz),(∀s ∈ l,s ∈ szs)->(best ∈ szs/\n<=best.d\/best.d=0/\∃t ∈ l,(sq=true->t.r=t.c)/\n<=t.d)->(l.foldl (cm n sq) best) ∈ szs/\n<=(l.foldl (cm n sq) best).d
 | [],best,_,h=>by
  rcases h with h|⟨_,t,ht,_⟩
  ·exact h
  ·cases ht
 | s::l,best,hl,h=>by
  have hs:=hl s (List.mem_cons_self ..);refine FR hn l _ (fun t ht=>hl t (List.mem_cons_of_mem _ ht)) ?_;unfold cm;rcases h with ⟨h1,h2⟩|⟨h0,t,ht,ht1,ht2⟩
  ·split
   ·exact .inl ⟨h1,h2⟩
   ·rename_i hc
    split
    ·exact .inl ⟨hs,byO⟩
    ·exact .inl ⟨h1,h2⟩
  ·split
   ·rename_i hc
    rcases List.mem_cons.1 ht with rfl|ht
    ·rcases hc with ⟨a,b⟩|b
     ·exact absurd (ht1 a) b
     ·omega
    ·exact .inr ⟨h0,t,ht,ht1,ht2⟩
   ·rename_i hc
    rw[if_pos (.inl h0)];exact .inl ⟨hs,byO⟩
theorem Na{n:Int}{sq:Bool}(h1:1<=n)(h2:n<=1558):∃s,tN n sq=(s,0)/\s ∈ szs/\n<=s.d:=by
 unfold tN;rw[if_neg byO,if_neg byO];have hl:szs.take 30=szs:=List.take_of_length_le (by rw[gI];exact Nat.le_refl _);have:=FR (sq:=sq) h1 szs Sz.zero (fun s h=>h) (.inr ⟨rfl,⟨144,144,22,22,1558,620,10⟩,by decide,fun _=>rfl,h2⟩);refine⟨_,rfl,?_⟩;unfold cJ;rw[hl];exact this
structure MatQ (p:List UInt8)(sq:Bool)(cs:List Nat)(i m:Nat)(e:List (El F1))(gf:G):Prop where
 lt:i<30
 sol:Sol p cs
 fit:tN ((max (kW p cs).length 1:Nat):Int) sq=((dz i).sz,0)
 dm:(dz i).d=(kW p cs).length+m
 ve:en e=fA (zI (kW p cs)) m
 le:e.length=(dz i).d
 so:SizeOrd (dz i).sz gf
 enc:∀x,x<(dz i).n->IsEnc g1 (dz i).ck 1 (fO e 0 (dz i).n x) ((dz i).W e x)
noncomputable def mtB(i:Nat)(e:List (El F1))(gf:G):List Bool:=bh (dz i).sz gf.cells (ilv (dz i).n ((dz i).W e) ((dz i).d+(dz i).c)) ((dz i).sz.r*(dz i).sz.c).toNat
theorem KV{l:List Nat}(h:∀x ∈ l,x<=255):en (l.map (eB 301))=zI l:=by
 unfold en zI;rw[List.map_map];refine List.map_congr_left fun x hx=>?_;have:=h x hx;show(((eB 301 x).val:Nat):Int)=(x:Int);show((x%256:Nat):Int)=(x:Int);omega
namespace XZq
def xtr:=zzi @Sz.cells.eq_1 (zzi @Sz.val.eq_1 (zzi @Int.cast_ofNat_Int @ite_self.{1}))
end XZq
open XZq
theorem UD{lo:Nat}{H:Heap}{v:Value}{sq:Bool}(hp:SlU H v p)(hl:p.length<=300)(hlo:lo<=H.length) :
  Ev cp lo 18 [v,.bool sq] H (fun r H'=>Ext H H'/\∃cs i m e gf q,MatQ p sq cs i m e gf/\r=.tuple #[.agg #[.int .i64 (dz i).sz.c,.int .i64 (dz i).sz.r,.slice (some ⟨q,0,none⟩) ((dz i).sz.r*(dz i).sz.c).toNat ((dz i).sz.r*(dz i).sz.c).toNat],.int .i64 0]/\H'.get q=some (et (mtB i e gf))):=by
 obtain⟨ad,c0,rfl⟩:=hp.len;refine stG rfl rfl ?_;unfold Px;simp only[kB,aD];refine lF ?_;refine Dm ?_;refine aC (UC (p:=p) (hp.mono (Ext.app _ _)) byO (by simp;omega)) ?_;rintro r H1 ⟨hx1,u,cs,hn,rfl,hu⟩;have g0:H1.get H.length=some _:=hx1.get px;have hx1:=hx1.of_app;have hl1:=Heap.get_lt g0;have hs:=Bn hn;have hel:=I0 hs byO;have hle:=FF hs byO;have hcl:cst cs 0 0<=303:=by
  by_cases h1:1<=p.length
  ·have:=Ee hs h1 byO
   split at this<;>omega
  ·rw[Ef hs byO];omega
 clear hn;obtain⟨E,hEE⟩:∃E,kW p cs=E:=⟨_,rfl⟩;rw[hEE]at hu hel hle;have hE:E.length<=303:=byO;clear hel hcl;have hu2:=uB hu;obtain⟨au,cu,rfl⟩:=hu.len;obtain⟨s,hfit,hsz,hd⟩:=Na (n:=((max E.length 1:Nat):Int)) (sq:=sq) byO byO;have hf:=RZ (lo:=lo) (H:=H1) ((max E.length 1:Nat):Int) sq byO;rw[hfit]at hf;obtain⟨i,hi,rfl⟩:=mZ.1 hsz;have hz:=uA hi;have hdn:max E.length 1<=(dz i).d:=by
  have:((max E.length 1:Nat):Int)<=((dz i).d:Int):=hd;omega
 obtain⟨m,hm⟩:∃m,(dz i).d=E.length+m:=⟨(dz i).d-E.length,byO⟩;have hmx:(if (1:Int)>((E.length:Nat):Int) then(1:Int) else((E.length:Nat):Int))=((max E.length 1:Nat):Int):=by split<;>omega
 have hd2:=hz.d2;have hpd:=Bt (m:=m) hle byO;have hdm:(dz i).sz.d=((E.length:Nat):Int)+(m:Nat):=by show((dz i).d:Int)=_;omega
 have hpl:(fA (zI E) m).length=(dz i).d:=by rw[kC,hm];simp[zI]
 have hw255:=Jj (m:=m) hle;have hvE:=KV hw255;obtain⟨e,he⟩:∃e,e=(Ji E m).map (eB 301):=⟨_,rfl⟩;rw[<-he]at hvE;have hpv:fA (zI E) m=en e:=by rw[Jg,hvE]
 have hele:e.length=(dz i).d:=by rw[<-hpl,hpv,dX]
 rw[hpv]at hpd;have hchk:jt (dz i).sz (en e) (dz i).sz.d=0:=vQ hsz (by rw[dX,hele];rfl) (gj (f:=F1) e);have hMQ:∀gf,SizeOrd (dz i).sz gf->(∀x,x<(dz i).n->IsEnc g1 (dz i).ck 1 (fO e 0 (dz i).n x) ((dz i).W e x))->MatQ p sq cs i m e gf:=by
  intro gf h1 h2;subst hEE;exact⟨hi,hs,hfit,hm,hpv.symm,hele,h1,h2⟩
 replace hMQ:False\/_:=.inr hMQ;clear hpl hpv hw255 hvE he hd hle hs hEE;obtain⟨gf0,hso0⟩:=Af _ hsz;have hu3:SlI H1 (.slice au E.length cu) (zI E):=hu2;clear hu hu2 hfit hp;generalize hsv:(dz i).sz=s at *;replace hsv:False\/_:=.inr hsv;replace hchk:False\/_:=.inr hchk;have hm2:m<=1558:=byO;replace hm:False\/_:=.inr hm;replace hele:False\/_:=.inr hele;replace hdn:False\/_:=.inr hdn;obtain⟨sr,sc,srr,src,sd,sk,sb⟩:=s;simp only at hdm;replace hdm:False\/_:=.inr hdm;refine lF ?_;refine Dn ?_;refine zG ?_;refine aC hf ?_;rintro r H2 ⟨hx2,rfl⟩;clear hf;have g0:=hx2.get g0;have hn5:H.length≠H2.length:=by have:=Heap.get_lt g0;omega
 replace hn5:False\/_:=.inr hn5;have hx12:=hx1.trans hx2;have hl2:=hx12.1;have hu3:=hu3.mono hx2;clear hx1 hx2;refine lF ?_;have g6:Heap.get (H2++[some [Value.int .i64 sr,.int .i64 sc,.int .i64 srr,.int .i64 src,.int .i64 sd,.int .i64 sk,.int .i64 sb]]) H2.length=some [Value.int .i64 sr,.int .i64 sc,.int .i64 srr,.int .i64 src,.int .i64 sd,.int .i64 sk,.int .i64 sb]:=aF;have hE2:=Ext.app H2 [some [Value.int .i64 sr,.int .i64 sc,.int .i64 srr,.int .i64 src,.int .i64 sd,.int .i64 sk,.int .i64 sb]];have g0:=hE2.get g0;have hu3:=hu3.mono hE2;have hx13:=hx12.trans hE2;have hl3:=hx13.1;clear hx12 hE2;have hq6:H2.length<(H2++[some [Value.int .i64 sr,.int .i64 sc,.int .i64 srr,.int .i64 src,.int .i64 sd,.int .i64 sk,.int .i64 sb]]).length:=by simp
 generalize H2++[some [Value.int .i64 sr,.int .i64 sc,.int .i64 srr,.int .i64 src,.int .i64 sd,.int .i64 sk,.int .i64 sb]]=K3 at *;generalize H2.length=b6 at *;have hpad:=Ul (lo:=lo) (H:=K3) (v:=.slice au E.length cu) (l:=zI E) (n:=sd) hu3 (by simp[zI];omega) (by rw[hdm.resolve_left id];exact⟨by show(-9223372036854775808:Int)<=_;omega,by show _<=(9223372036854775807:Int);omega⟩) byO;rw[show wJ (zI E) sd=.inr (en e) by rw[hdm.resolve_left id];exact hpd]at hpad;clear hpd hu3;(try simp only[aD]);refine Dn ?_;refine zG ?_;refine aC hpad ?_;rintro r K4 ⟨hx4,w,rfl,hw⟩;clear hpad;have g0:=hx4.get g0;have g6:=hx4.get g6;have hx14:=hx13.trans hx4;have hl4:=hx14.1;clear hx13 hx4;obtain⟨aw,cw,rfl⟩:=hw.len;have hvl:(en e).length<=1000000000:=by rw[dX,hele.resolve_left id];omega
 have hprot:=Sd (lo:=lo) (H:=K4) (s:=⟨sr,sc,srr,src,sd,sk,sb⟩) hw hvl byO;refine lF ?_;refine Dn ?_;refine zG ?_;refine aC hprot ?_;rintro r K5 ⟨hx5,-,hpr⟩;clear hprot;obtain⟨b,hb,rfl,hgb,henc⟩:=hpr i hi (hsv.resolve_left id).symm e rfl (hele.resolve_left id);clear hpr hw;have g0:=hx5.get g0;have g6:=hx5.get g6;have hx15:=hx14.trans hx5;have hl5:=hx15.1;clear hx14 hx5;have hWl:(ilv (dz i).n ((dz i).W e) ((dz i).d+(dz i).c)).length=(dz i).d+(dz i).c:=qk _ _ _;have hwords:Words K5 (.slice (some ⟨b,0,none⟩) ((dz i).d+(dz i).c) ((dz i).d+(dz i).c)) (ilv (dz i).n ((dz i).W e) ((dz i).d+(dz i).c)):=.inr ⟨b,_,_,by rw[hWl],hgb,fun _ _=>rfl,Nat.le_refl _⟩;have hpl:=Jn (lo:=lo) (H:=K5) (s:=⟨sr,sc,srr,src,sd,sk,sb⟩) byO hwords (fun _=>⟨gf0,hso0⟩);have hbw:cW (ilv (dz i).n ((dz i).W e) ((dz i).d+(dz i).c))=false:=by
  unfold cW;rw[List.any_eq_false];intro x hx;unfold ilv at hx;obtain⟨j,-,rfl⟩:=List.mem_map.1 hx;have:=El.lt (co ((dz i).W e (j%(dz i).n)) (j/(dz i).n));have h256:F1.q=256:=rfl;simp;omega
 have hV2:ilv (dz i).n ((dz i).W e) ((dz i).d+(dz i).c)=ilv (dz i).n ((dz i).W e) ((dz i).d+(dz i).c):=rfl;replace hV2:False\/_:=.inr hV2;obtain⟨V,hV⟩:∃V,V=ilv (dz i).n ((dz i).W e) ((dz i).d+(dz i).c):=⟨_,rfl⟩;rw[<-hV]at hWl hbw hpl hgb;replace hV2:False\/_:=.inr hV.symm;clear hV;have hNe:False\/(dz i).d+(dz i).c=(dz i).d+(dz i).c:=.inr rfl;replace hele:False\/_:=hele;have hNc:((dz i).d+(dz i).c:Nat)<=3000:=by have:=hz.c2;omega
 clear hwords hgb;obtain⟨N,hN⟩:∃N,N=(dz i).d+(dz i).c:=⟨_,rfl⟩;rw[<-hN]at hWl hpl hNc ⊢;replace hNe:False\/_:=.inr hN.symm;clear hN;refine lF ?_;refine Dn ?_;refine zG ?_;refine aC hpl ?_;rintro r K6 ⟨hx6,hcs⟩;clear hpl;have hsd:sd=((dz i).d:Int):=(congrArg Sz.d (hsv.resolve_left id)).symm;have hsk:sk=((dz i).c:Int):=(congrArg Sz.k (hsv.resolve_left id)).symm;rcases hcs with ⟨h1,-⟩|⟨-,h2,-⟩|⟨-,-,h3,-⟩|⟨-,-,-,gf,q,hso,hq,rfl,hgq⟩
 ·exact absurd hsz h1
 ·exact absurd (by rw[hWl,<-hNe.resolve_left id];show(((dz i).d+(dz i).c:Nat):Int)=sd+sk;omega) h2
 ·rw[hbw]at h3;cases h3
 have hqn:H.length<q:=by have:=Heap.get_lt g0;omega
 have g0:=hx6.get g0;have hx16:=hx15.trans hx6;have hl6:=hx16.1;clear hx15 hx6 g6;replace hsd:False\/_:=.inr hsd;replace hsk:False\/_:=.inr hsk;have hH0:=Heap.get_lt g0;generalize hnq:(sr*sc).toNat=nq at *;replace hnq:False\/_:=.inr hnq;refine lF ?_;refine K2 ?_;refine⟨hx16.set byO,cs,i,m,e,gf,q,hMQ.resolve_left id gf ?_ henc,?_,?_⟩
 ·exact hso
 ·rw[hsv.resolve_left id];show _=Value.tuple #[.agg #[.int .i64 sc,.int .i64 sr,.slice (some ⟨q,0,none⟩) (sr*sc).toNat (sr*sc).toNat],.int .i64 0]
  rw[hnq.resolve_left id];rfl
 ·rw[aI byO]
  unfold mtB;rw[hsv.resolve_left id,hV2.resolve_left id];show _=some (et (bh ⟨sr,sc,srr,src,sd,sk,sb⟩ gf.cells V (sr*sc).toNat));rw[hnq.resolve_left id];exact hgq
open Go.Abs
structure RN where
 i:Nat
 m:Nat
 ph:Nat
 s:Nat
 u:Bool
structure RS where
 w:Nat
 s:Int
 t:Int
 c:Nat
 to:RN
def rnC(n:RN):List Value:=[aB n.i,aB n.m,aB n.ph,aB n.s,.bool n.u]
abbrev rnV(n:RN):Value:=.agg #[aB n.i,aB n.m,aB n.ph,aB n.s,.bool n.u]
def rsC(x:RS):List Value:=[aB x.w,.int .i64 x.s,.int .i64 x.t,aB x.c,aB x.to.i,aB x.to.m,aB x.to.ph,aB x.to.s,.bool x.to.u]
abbrev rsV(x:RS):Value:=.agg #[aB x.w,.int .i64 x.s,.int .i64 x.t,aB x.c,aB x.to.i,aB x.to.m,aB x.to.ph,aB x.to.s,.bool x.to.u]
theorem oi(n:RN):(rnC n).length=5:=rfl
theorem wW(n:RN):oneCells (rnC n)=true:=rfl
theorem om(n:RS):(rsC n).length=9:=rfl
theorem KG(n:RS):oneCells (rsC n)=true:=rfl
def fV(n:RN):Nat:=if n.m=3\/n.m=4 then 100+10*(n.m-3)+n.ph else n.m*32+(n.ph+4*n.s+if n.u then 16 else 0)
def vN(n:RN)(v:Nat):Nat:=if n.m=3 then lz v else if fi (n.m==2) n.s v=128 then 256 else fi (n.m==2) n.s v+if n.u then 128 else 0
def dW(p:List UInt8)(n:RN)(v:Nat):Option RN:=
 if n.m≠3/\n.s=0/\v<3 then some ⟨n.i,n.m,(n.ph+1)%3,v+1,n.u⟩
 else if n.m≠3/\n.s=2/\v=30/\n.u=false then some ⟨n.i,n.m,(n.ph+1)%3,0,true⟩
 else if n.i<p.length/\by' p n.i=vN n v then some ⟨n.i+1,n.m,(n.ph+1)%3,0,false⟩ else none
def eY(p:List UInt8)(n:RN):Nat->List RS
 | 0=>if n.ph=0 then[⟨254,-1,-1,1,⟨n.i,0,0,0,false⟩⟩] else[]
 | v+1=>eY p n v++match dW p n v with
  | some t=>[⟨v,-1,-1,if n.ph=0 then 2 else 0,t⟩]
  | none=>[]
def Al(p:List UInt8)(n:RN):List RS:=eY p n 40
def asR(i:Nat):RN:=⟨i,0,0,0,false⟩
def iN(p:List UInt8)(i:Nat):List RS:=if i+1<p.length/\jr (by' p i)=true/\jr (by' p (i+1))=true then[⟨130+10*(by' p i-48)+(by' p (i+1)-48),-1,-1,1,asR (i+2)⟩] else[]
def oU(p:List UInt8)(i:Nat):List RS:=if i<p.length/\by' p i<128 then[⟨by' p i+1,-1,-1,1,asR (i+1)⟩] else[]
def jw(p:List UInt8)(i:Nat):List RS:=if i<p.length/\128<=by' p i then[⟨235,(by' p i-127:Nat),-1,2,asR (i+1)⟩] else[]
def yF(m:Nat):Nat:=if m=1 then 230 else if m=2 then 239 else if m=3 then 238 else if m=4 then 240 else 0
def nP(i k:Nat):List RS:=(List.range k).map fun j=>⟨yF (j+1),-1,-1,1,⟨i,j+1,0,0,false⟩⟩
def dJ(i d:Nat):RS:=if d<250 then⟨231,(d:Nat),-1,2+d,asR (i+d)⟩ else⟨231,(d/250+249:Nat),(d%250:Nat),3+d,asR (i+d)⟩
def l6(i k:Nat):List RS:=(List.range k).map fun j=>dJ i (j+1)
def dI(p:List UInt8)(i:Nat):List RS:=iN p i++oU p i++jw p i++nP i 4++l6 i (min 1749 (p.length-i))
def me(n:RN):Nat:=if n.ph=3 then 0 else 1
def xi(p:List UInt8)(n:RN):List RS:=[⟨31,-1,-1,me n,asR n.i⟩]++if n.i<p.length/\32<=by' p n.i/\by' p n.i<=94 then[⟨by' p n.i%64,-1,-1,me n,⟨n.i+1,4,(n.ph+1)%4,0,false⟩⟩] else[]
def bx(p:List UInt8)(n:RN):List RS:=if n.m=0 then dI p n.i else if n.m≠4 then Al p n else xi p n
structure RN.ok (N:Nat)(n:RN):Prop where
 i:n.i<=N
 m:n.m<=4
 ph:n.ph<=3/\(n.m≠4->n.ph<=2)/\(n.m=0->n.ph=0)
 s:n.s<=3/\(n.m=0\/3<=n.m->n.s=0/\n.u=false)
theorem j1{N:Nat}{n:RN}(h:n.ok N):fV n<128:=by
 obtain⟨h1,h2,⟨h3,h4,h5⟩,h6,h7⟩:=h
 grind[fV]
theorem II{n:RN}{v:Nat}(hv:v<40):vN n v<=256:=by
 unfold vN;split
 ·grind[lz]
 ·have:fi (n.m==2) n.s v<=128:=by
   grind[fi]
  grind
theorem zE{n t:RN}{v:Nat}(h:n.ok p.length)(hm:1<=n.m/\n.m<=3)(hu:dW p n v=some t):t.ok p.length:=by
 obtain⟨h1,h2,⟨h3,h4,h5⟩,h6,h7⟩:=h;unfold dW at hu;split at hu
 ·cases hu
  refine⟨h1,h2,⟨by grind,fun _=>by grind,fun e=>by simp_all⟩,by grind,fun e=>by grind⟩
 ·split at hu
  ·cases hu
   refine⟨h1,h2,⟨by grind,fun _=>by grind,fun e=>by simp_all⟩,by simp_all,fun e=>by simp_all⟩
  ·split at hu
   ·cases hu
    refine⟨by grind,h2,⟨by grind,fun _=>by grind,fun e=>by simp_all⟩,by simp_all,fun e=>⟨rfl,rfl⟩⟩
   ·cases hu
theorem gO{N i:Nat}(h:i<=N):(asR i).ok N:=⟨h,by simp[asR],⟨by simp[asR],fun _=>by simp[asR],fun _=>rfl⟩,by simp[asR],fun _=>⟨rfl,rfl⟩⟩
structure RS.ok (N:Nat)(x:RS):Prop where
 to:x.to.ok N
 w:x.w<=255
 c:x.c<=2000
 s:-1<=x.s/\x.s<=2000
 t:-1<=x.t/\x.t<=2000
theorem zD{p:List UInt8}{n:RN}(h:n.ok p.length)(hm:1<=n.m/\n.m<=3):∀k,k<=40->∀x ∈ eY p n k,x.ok p.length
 | 0,_,x,hx=>by
  unfold eY at hx;split at hx
  ·obtain rfl:=List.mem_singleton.1 hx
   exact⟨gO h.i,by simp,by simp,by simp,by simp⟩
  ·cases hx
 | k+1,hk,x,hx=>by
  rcases List.mem_append.1 hx with hx|hx
  ·exact zD h hm k byO x hx
  ·cases hu:dW p n k with
   | none=>simp_all
   | some t=>
    rw[hu]at hx;obtain rfl:=List.mem_singleton.1 hx;exact⟨zE h hm hu,by grind,by grind,by simp,by simp⟩
theorem Bc(m:Nat):yF m<=255:=by
 grind[yF]
theorem mY{n:RN}(h:n.ok p.length):∀x ∈ bx p n,x.ok p.length:=by
 intro x hx;unfold bx at hx;split at hx
 ·unfold dI at hx
  simp only[be₀]at hx;rcases hx with (((hx|hx)|hx)|hx)|hx
  ·unfold iN at hx
   split at hx
   ·rename_i hc
    obtain⟨h1,h2,h3⟩:=hc;have h2:=dF.1 h2;have h3:=dF.1 h3;obtain rfl:=List.mem_singleton.1 hx;exact⟨gO byO,by grind,by simp,by simp,by simp⟩
   ·cases hx
  ·unfold oU at hx
   split at hx
   ·obtain rfl:=List.mem_singleton.1 hx
    exact⟨gO byO,by grind,by simp,by simp,by simp⟩
   ·cases hx
  ·unfold jw at hx
   split at hx
   ·have:=qA p n.i
    obtain rfl:=List.mem_singleton.1 hx;exact⟨gO byO,by simp,by simp,by grind,by simp⟩
   ·cases hx
  ·obtain⟨j,hj,rfl⟩:=List.mem_map.1 hx
   have hw:=Bc (j+1);exact⟨⟨h.i,by grind,⟨by simp,fun _=>by simp,fun e=>by simp_all⟩,by simp,fun _=>⟨rfl,rfl⟩⟩,hw,by simp,by simp,by simp⟩
  ·obtain⟨j,hj,rfl⟩:=List.mem_map.1 hx
   have:=List.mem_range.1 hj;unfold dJ;split
   ·exact⟨gO byO,by simp,by grind,by grind,by simp⟩
   ·exact⟨gO byO,by simp,by grind,by grind,by grind⟩
 ·split at hx
  ·exact zD h ⟨byO,by grind[RN.ok.m]⟩ 40 (Nat.le_refl _) x hx
  ·rcases List.mem_append.1 hx with hx|hx
   ·obtain rfl:=List.mem_singleton.1 hx
    exact⟨gO h.i,by simp,by grind[me],by simp,by simp⟩
   ·split at hx
    ·obtain rfl:=List.mem_singleton.1 hx
     exact⟨⟨by grind,by simp,⟨by grind,fun e=>absurd rfl e,fun e=>by simp_all⟩,by simp,fun _=>⟨rfl,rfl⟩⟩,by grind,by grind[me],by simp,by simp⟩
    ·cases hx
end Go.Proofs.YtmnlgdpdgjbfgaaGreat
