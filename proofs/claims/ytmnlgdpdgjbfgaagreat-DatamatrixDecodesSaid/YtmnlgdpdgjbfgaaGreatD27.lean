/- Lemmas. -/
import Derived.Test.YtmnlgdpdgjbfgaaGreatD20
import Derived.Test.YtmnlgdpdgjbfgaaGreatD26
set_option linter.all false
namespace Go.Proofs.YtmnlgdpdgjbfgaaGreat
open Go.Abs Go.RS
variable{H:Heap}{lo:Nat}{R:Value->Heap->Prop}{v:Value}
set_option maxRecDepth 20000
section
variable {f:FD}[OkC f]
theorem sZ(s:List (El f)):(uF s).length<=s.length+1:=by
 have h1:=lH (tab (bml (co s) s.length).1 (Reg.run (co s) s.length).C);rw[aG]at h1;have h2:=(mR (co s) s.length).1;unfold uF;omega
theorem Cn{l:List Nat}(h:Sl qG H v l)(hl:0<l.length):∃b o sp cap xs,v=.slice (some ⟨b,o,sp⟩) l.length cap/\H.get b=some xs/\(∀i,i<l.length->xs[o+i]?=some (.int .i64 ((l.getD i 0:Nat):Int)))/\o+l.length<=xs.length:=by
 obtain⟨b,o,sp,cap,xs,h1,h2,h3,h4⟩:=h.els 0 hl;exact⟨b,o,sp,cap,xs,h1,h2,h3,h4⟩
theorem Ea{α:Type}{enc:α->Value}{H H':Heap}{l:List α}{n b c:Nat}(h:Sl enc H v l)(hn:NewV n v)(e:Keep2 b c H H')(hb:b<n)(hc:c<n):Sl enc H' v l:=by
 rcases h with h|⟨b',o,sp,cap,xs,h1,h2,h3⟩
 ·exact .inl h
 ·have:=hn _ _ _ _ _ h1
  exact .inr ⟨b',o,sp,cap,xs,h1,e.get h2 byO byO,h3⟩
def RepOK(g:El f)(r b:Nat)(w:List (El f))(er:Nat->Bool)(N:Nat)(v:Value)(H':Heap):Prop:=∃vw vc,v=.tuple #[.agg #[vw,vc],.int .i64 0]/\SlE H' vw (gA g r b w er)/\Sl qG H' vc (sel (fun i=>decide (co (gA g r b w er) i≠co w i)) w.length)/\NewV N vw
theorem RepOK.le{g:El f}{r b:Nat}{w:List (El f)}{er:Nat->Bool}{N M:Nat}{v:Value}{H:Heap}(h:RepOK g r b w er N v H)(hm:M<=N):RepOK g r b w er M v H:=by
 obtain⟨a,c,h1,h2,h3,h4⟩:=h;exact⟨a,c,h1,h2,h3,fun b o sp k c e=>Nat.le_trans hm (h4 b o sp k c e)⟩
namespace XUd
def xtr:=zzi @Int.cast_ofNat_Int (zzi @fv.eq_1 (zzi @fvf.eq_1 (zzi @ite_self.{1} (zzi @ic (zzi @iZ (zzi @iY (zzi @cdC.eq_1 (zzi @arC.eq_1 (zzi @fvC.eq_1 (zzi @iU (zzi @bq (zzi @eQ (zzi @fj (zzi @xU @te))))))))))))))
end XUd
open XUd
set_option maxHeartbeats 8000000 in
theorem HE{g:El f}{w:List (El f)}{r b d4 d5 d7:Nat}{er:Nat->Bool}{aw a8 a12:Option Addr}{cw c8 c12:Nat}{vx vi:Value}{S:List Value}(hS:∃(z:Nat->Value),S=[z 0,.slice aw w.length cw,z 2,.int .i64 (sC er w.length:Nat),.pointer (some ⟨d4,0,none⟩),.pointer (some ⟨d5,0,none⟩),z 6,.pointer (some ⟨d7,0,none⟩),.slice a8 r c8,z 9,z 10,z 11,.slice a12 (cV (plc g w.length) er w.length r (syS g r b w)).length c12,.int .i64 (Al (plc g w.length) er w.length r (syS g r b w):Nat),vx,vi,.int .i64 ((sel (isR (plc g w.length) er (cV (plc g w.length) er w.length r (syS g r b w))) w.length).length:Nat),z 17,z 18,z 19,z 20,z 21,z 22,z 23,z 24,z 25,z 26,z 27,z 28,z 29,z 30,z 31,z 32,z 33,z 34,z 35,z 36,z 37,z 38,z 39,z 40,z 41,z 42,z 43,z 44,z 45,z 46,z 47,z 48,z 49,z 50,z 51,z 52,z 53,z 54,z 55,z 56,z 57,z 58])(hlo:lo<=d5)(hg:Gn (OkC.ok (f:=f)) g)(hc:CdOK f r b)(hr1:r<w.length)(hr2:w.length<f.q)(hk:sC er w.length<=r)
  (hw:SlE H (.slice aw w.length cw) w) (g4:H.get d4=some (cdC f r b)) (g5:H.get d5=some [.slice none 0 0,.slice none 0 0]) (g7:H.get d7=some (fvC f)) (h8:SlE H (.slice a8 r c8) (ef g r b w)) (hvx:SlE H vx ((sel (cK (plc g w.length) er (cV (plc g w.length) er w.length r (syS g r b w))) w.length).map (plc g w.length))) (hvi:Sl qG H vi (sel (cK (plc g w.length) er (cV (plc g w.length) er w.length r (syS g r b w))) w.length))
  (hR:∀v H',Keep d5 H H'->(¬ DecOK g r b w er->v=nr 17)->(DecOK g r b w er->RepOK g r b w er d5 v H')->R v H') :
  wpS cp lo (tl 10 uz) (eP ⟨0,0,[.node (.ld 2 true) (.cons (.var 5) .nil),.var 6],.skip,.plain⟩ R) S H:=by
 obtain⟨z,rfl⟩:=hS;have h2:=qle (f:=f);obtain⟨c1,c2,c3⟩:=hc;have hX:=gC (kN hg) (dv hg) (n:=w.length) byO;have hreg:=fun h:DecOK g r b w er=>h.reg (kN hg) (dv hg) byO;have hfixP:=so g r b w er;have hchg:=v5 g r b w er;have hdok:sC er w.length<=r->2*((cV (plc g w.length) er w.length r (syS g r b w)).length-1)+sC er w.length<=r->(sel (isR (plc g w.length) er (cV (plc g w.length) er w.length r (syS g r b w))) w.length).length=(cV (plc g w.length) er w.length r (syS g r b w)).length-1->rY g r b (gA g r b w er)->DecOK g r b w er:=fun h1 h2 h3 h4=>⟨h1,h2,h3,h4⟩;have hdno:DecOK g r b w er->2*((cV (plc g w.length) er w.length r (syS g r b w)).length-1)+sC er w.length<=r/\(sel (isR (plc g w.length) er (cV (plc g w.length) er w.length r (syS g r b w))) w.length).length=(cV (plc g w.length) er w.length r (syS g r b w)).length-1/\rY g r b (gA g r b w er):=fun h=>⟨h.cap,h.num,h.cw⟩;have hlp:=uD (plc g w.length) er w.length r (syS g r b w);have hPn:=j9 (cK (plc g w.length) er (cV (plc g w.length) er w.length r (syS g r b w))) w.length;have hPb:∀i ∈ sel (cK (plc g w.length) er (cV (plc g w.length) er w.length r (syS g r b w))) w.length,i<w.length:=fun i hi=>(eK.1 hi).1;have hPl:(sel (cK (plc g w.length) er (cV (plc g w.length) er w.length r (syS g r b w))) w.length).length<=w.length:=ft _ _;have hel:(sel (isR (plc g w.length) er (cV (plc g w.length) er w.length r (syS g r b w))) w.length).length<=w.length:=ft _ _;have hll:(cV (plc g w.length) er w.length r (syS g r b w)).length<=r+1:=by
  have:=sZ (hO (plc g w.length) er w.length r (syS g r b w));rw[iP]at this;rw[DX]at this;unfold cV;omega
 have hcs:co (ef g r b w)=syS g r b w:=rfl;have hsl:(ef g r b w).length=r:=aG _ _;generalize sel (cK (plc g w.length) er (cV (plc g w.length) er w.length r (syS g r b w))) w.length=P at *;generalize (sel (isR (plc g w.length) er (cV (plc g w.length) er w.length r (syS g r b w))) w.length).length=e at *;generalize (cV (plc g w.length) er w.length r (syS g r b w)).length=m at *;generalize hLn:Al (plc g w.length) er w.length r (syS g r b w)=L at *;clear hLn;have hsk:=ft er w.length;generalize sC er w.length=k at *;have hl5:=Heap.get_lt g5;unfold uz;simp only[tl,kB,aB];by_cases hgo:e=L/\e=m-1/\2*e+k<=r
 case neg=>
  have hno:¬ DecOK g r b w er:=fun h=>by
   have h1:=hdno h;have h3:=hreg h;exact hgo ⟨h3.symm,h1.2.1,by have:=h1.1;have:=h1.2.1;omega⟩
  have hgo':e≠L\/e≠m-1\/r<2*e+k:=byO;clear hdok hdno hreg hgo hfixP hchg;refine aS ?_ ?_<;>intro h
  case refine_2=>exfalso;simp at h;omega
  clear h;refine aC ?_;refine aT ?_;exact hR _ _ (dD (Ext.refl _) _ _) (fun _=>rfl) (fun h=>absurd h hno)
 case pos=>
  obtain⟨rfl,hem,hcap⟩:=hgo;have hiff:DecOK g r b w er↔rY g r b (gA g r b w er):=⟨fun h=>(hdno h).2.2,fun h=>hdok hk byO hem h⟩;have hem':e<=m-1/\m-1<=e:=byO;clear hdok hdno hreg hem;refine aS ?_ ?_<;>intro h
  ·exfalso;simp at h;omega
  clear h;refine aC ?_;generalize hG:H++_=G at *;obtain⟨g19,hxG⟩:=bV hG;clear hG;have hl19:=Heap.get_lt g19;rcases hw.mono hxG with ⟨-,h⟩|⟨xb,xo,xsp,xc,xs,ee,gx,hd1,hd2,hd3,hd4⟩
  ·rw[h]at hr1;simp at hr1
  cases ee;(try simp only[aB]);refine aQ ?_;refine dG (c:=elL w) (Own.nil (b:=G.length) byO) byO byO byO (by simp;omega) gx byO (by rw[Nat.mul_one];exact hd1) (td w) ?_;rintro v4 H4 hown4 hk4 hl4;have hx4:Ext G H4:=hk4.ext (Ext.refl _) (Nat.le_refl _);rw[List.nil_append]at hown4;obtain⟨-,⟨-,h⟩|⟨m',hm',hml,rfl,gw⟩⟩:=hown4
  ·have:w.length=0:=by rw[<-bq w,h];rfl
   omega
  have hmw:m'=w.length:=by rw[bq]at hml;omega
  subst hmw;clear hml hd1 gx hk4;have g19:=hx4.get g19;have hx4:=hxG.trans hx4;have hlw:=Heap.get_lt gw;clear hxG;refine aC ?_;generalize hG:H4.set H.length _=G4 at *;have hx5:Ext H G4:=by rw[<-hG];exact hx4.set (Nat.le_refl _)
  have g19:Heap.get G4 H.length=some [.slice (some ⟨G.length,0,some 1⟩) w.length w.length,.slice none 0 0]:=by rw[<-hG,aF byO]
  have gw:Heap.get G4 G.length=some (elL w):=by rw[<-hG,aH byO];exact gw
  have hl4':H4.length<=G4.length:=by rw[<-hG];simp
  clear hG hx4;have g7':=hx5.get g7;have g4':=hx5.get g4;refine aQ ?_;refine aA (Mc (f:=f) (b:=b) byO (h8.mono hx5) (by rw[hsl];omega) hX hPn hPb (hvx.mono hx5) byO byO) ?_;rintro v20 H5 ⟨hx6,h20,hn20⟩;rw[hsl,hcs]at h20;generalize hE:pG (plc g w.length) b r (syS g r b w) P=E at *;have g19:=(hx6).get g19;have gw:=(hx6).get gw;have hx6':=hx5.trans hx6;have hl5':=hx6.1;clear g7' g4' hx5 hx6 hE;have hml:(P.map E).length=P.length:=ay₀ _;have h200:=h20;obtain⟨a20,c20,rfl⟩:=h20.len;rw[hml]at h200 hn20 ⊢;obtain⟨ai,ci,rfl⟩:=hvi.len;have hpz:=qq w P E;refine aC ?_;refine aa (fun i S H'=>Keep2 H.length G.length H5 H'/\Heap.get H' G.length=some (elL (eh w P E i))/\(∃vc bc,H5.length<=bc/\Heap.get H' H.length=some [.slice (some ⟨G.length,0,some 1⟩) w.length w.length,vc]/\Own lo 1 H' vc bc (jA ((P.take i).filter fun j=>decide (E j≠0))))/\∃(z:Nat->Value),S=[z 0,.slice (some ⟨xb,xo,xsp⟩) w.length cw,z 2,z 3,.pointer (some ⟨d4,0,none⟩),.pointer (some ⟨d5,0,none⟩),z 6,.pointer (some ⟨d7,0,none⟩),z 8,z 9,z 10,z 11,z 12,z 13,z 14,.slice ai P.length ci,z 16,z 17,z 18,.pointer (some ⟨H.length,0,none⟩),.slice a20 P.length c20,.int .i64 (i:Nat),z 22,z 23,z 24,z 25,z 26,z 27,z 28,z 29,z 30,z 31,z 32,z 33,z 34,z 35,z 36,z 37,z 38,z 39,z 40,z 41,z 42,z 43,z 44,z 45,z 46,z 47,z 48,z 49,z 50,z 51,z 52,z 53,z 54,z 55,z 56,z 57,z 58]) P.length ?_ ?_ ?_ ?_
  ·exact⟨Keep2.refl _ _ _,by rw[hpz];exact gw,⟨_,H5.length,Nat.le_refl _,g19,Own.nil byO⟩,aR rfl⟩
  ·rintro i S H' hi ⟨-,-,-,z,rfl⟩
   exact⟨_,aW,by simp⟩
  ·clear gw g19
   rintro i S H6 hi ⟨k6,gw,⟨vc,bc,hbc,g19,hown⟩,z,rfl⟩;have hx7:=k6.toExt hx6' (Nat.le_refl _) byO;have hl6:=k6.len;have g7':=hx7.get g7;obtain⟨yb,yo,ysp,yc,ys,ee,gy,hat,hyl⟩:=Cn hvi byO;cases ee;have hyb:=Heap.get_lt gy;have gy:=hx7.get gy;have hati:=hat i hi;clear hat;obtain⟨vb,vo,vsp,vcap,vs,ee,gv,hat,hvl⟩:=dV (Ea (n:=G4.length) h200 hn20 k6 byO byO) (by rw[hml];omega);rw[hml]at ee hat hvl;cases ee;have hatv:=hat i hi;rw[xD hi]at hatv;clear hat;have hpm:=vf hi;have hpl:=hPb _ hpm;have hfn:=v3 (ψ:=fun j=>decide (E j≠0)) hi;have hfl:((P.take i).filter fun j=>decide (E j≠0)).length<=i:=Nat.le_trans (List.length_filter_le _ _) (by rw[List.length_take];omega);by_cases h0:E (P.getD i 0)=0
   ·rw[if_neg (by simpa using h0),List.append_nil]at hfn
    have hps:=yB (w:=w) hi h0;rw[hfn,hps];rw[h0,lJ]at hatv;clear hfn hps h0 hpm;generalize P.getD i 0=p at *;refine aC ?_;refine aS ?_ ?_<;>intro h
    ·cases h
    clear h hatv;refine aC ?_;exact⟨k6,gw,⟨vc,bc,hbc,g19,hown⟩,aR ncM⟩
   ·rw[if_pos (by simpa using h0)]at hfn
    have hps:=sq (w:=w) (E:=E) hi;have hfe:jA ((P.take (i+1)).filter fun j=>decide (E j≠0))=jA ((P.take i).filter fun j=>decide (E j≠0))++[.int .i64 ((P.getD i 0:Nat):Int)]:=by rw[hfn];simp[jA]
    have hne:=fT h0;have hpw:=l4 w P E i;rw[hfe];clear hfn h0 hpm hfe;generalize P.getD i 0=p at *;generalize eh w P E (i+1)=W2 at *;generalize eh w P E i=W1 at *;generalize (P.take i).filter (fun j=>decide (E j≠0))=F at *;obtain⟨zb,zo,zsp,zcap,zs,ee,gz,hat,hzl⟩:=dV (hw.mono hx7) byO;cases ee;have hatw:=hat p hpl;clear hat;refine aC ?_;refine aS ?_ ?_<;>intro h
    case refine_2=>exfalso;simp at h;omega
    clear h hne;(try simp only[aB]);refine aQ ?_;refine aN (rD (f:=f) (co w p) (E p)) ?_;rintro v H7 ⟨hx8,rfl⟩;have gw:=(hx8).get gw;have g19:=(hx8).get g19;have gy:=(hx8).get gy;have hown:=hown.mono hx8;have k7:=k6.ext hx8;have hl7:=hx8.1;have hlw7:=Heap.get_lt gw;generalize co w p-E p=q at *;clear gv gz hatv hatw g7';refine aC ?_;generalize hG:H7.set G.length _=G7 at *;have k8:Keep2 H.length G.length H5 G7:=by rw[<-hG];exact k7.set2 _
    have hlG7:G7.length=H7.length:=by rw[<-hG];simp
    have gw7:Heap.get G7 G.length=some (elL W2):=by rw[<-hG,aF hlw7]
    have g19':Heap.get G7 H.length=some [.slice (some ⟨G.length,0,some 1⟩) w.length w.length,vc]:=by rw[<-hG,aH byO];exact g19
    have hown7:Own lo 1 G7 vc bc (jA F):=by rw[<-hG];exact hown.keep (dD (Ext.refl _) _ _) byO
    clear hG hown g19 gw hps gy;obtain⟨a',k',rfl,hk',-⟩:=hown7.len byO;have hFl:F.length<=w.length:=byO;refine aC ?_;refine aQ ?_;refine dG (c:=[.int .i64 (p:Nat)]) (c':=[.int .i64 (p:Nat)]) (hown7.mono (Ext.app _ _)) (by simp;omega) byO byO (by rw[j4];omega) (by rw[<-hlG7];exact aK) (by simp) rfl rfl ?_;rintro v' H9 hown9 hk9 hl9;have hE9:=Ext.app G7 [some [Value.int .i64 (p:Nat)]];simp only[as₀,ak₀,an₀]at hown9 hl9;have k9:=(k8.ext hE9).own hk9 byO;have g19:=hk9.get (hE9.get g19') byO;have gw9:=hk9.get (hE9.get gw7) byO;have hlb:=hown9.1;obtain⟨a9,k9',rfl,hk9',-⟩:=hown9.len byO;refine aC ?_;refine⟨k9.set1 _,by rw[aH byO];exact gw9,⟨_,G7.length+(0+1),byO,by rw[aF byO],hown9.keep (dD (Ext.refl _) _ _) byO⟩,aR ncM⟩
  ·clear gw g19
   rintro S H6 ⟨k6,gw,⟨vc,bc,hbc,g19,hown⟩,z,rfl⟩;rw[List.take_length]at hown;rw[hfixP]at gw;rw[hchg]at hown;have hx7:=k6.toExt hx6' (Nat.le_refl _) byO;have hvc:=Sl.ofOwn (enc:=qG) hown;have hnw:=NewV.own hown hbc;have hfl:=j0 g r b w er;have hl6:=k6.len;refine HG (f:=f) (aR rfl) byO hg byO byO byO hfl gw (hx7.get g4) (hx7.get g5) g19 byO (by obtain⟨a,c,h⟩:=hvc.len;exact⟨_,_,_,h⟩) ?_;rintro v H7 k7 hy hn;refine hR v H7 ⟨Nat.le_trans hx7.1 k7.len,fun j hj hne=>(k7.eq j (bc₀ hj hx7.1) hne).trans (hx7.2 j hj)⟩ (fun h=>hn fun h1=>h (hiff.2 h1)) (fun h=>⟨_,_,hy (hiff.1 h),?_,?_,NewV.mk byO⟩)
   ·exact bK (sp:=some 1) (k7.get gw byO) hfl
   ·exact eE hvc hnw k7 byO
end
open Go.Abs Go.RS
theorem iO{lo sz:Nat}{b:Nat}{c:List Value}(h:Own lo sz H v b c)(n:Nat)(hn:lo<=n):∃b',Own lo sz H v b' c/\(b'=n\/b'=b/\b<H.length):=by
 obtain⟨h1,h2|⟨m,h2,h3,h4,h5⟩⟩:=h
 ·exact⟨n,⟨hn,.inl h2⟩,.inl rfl⟩
 ·exact⟨b,⟨h1,.inr ⟨m,h2,h3,h4,h5⟩⟩,.inr ⟨rfl,Heap.get_lt h5⟩⟩
section
variable {f:FD}[OkC f]
open XUd
set_option maxHeartbeats 8000000 in
theorem HD{g:El f}{w:List (El f)}{r b d4 d5 d7 b9 bb bl:Nat}{er:Nat->Bool}{aw a8:Option Addr}{cw c8:Nat}{S:List Value}(hS:∃(z:Nat->Value),S=[z 0,.slice aw w.length cw,.slice (some ⟨bl,0,none⟩) w.length w.length,.int .i64 (sC er w.length:Nat),.pointer (some ⟨d4,0,none⟩),.pointer (some ⟨d5,0,none⟩),z 6,.pointer (some ⟨d7,0,none⟩),.slice a8 r c8,.slice (some ⟨b9,0,none⟩) w.length w.length,.slice (some ⟨bb,0,none⟩) (sC er w.length+1) (sC er w.length+1),z 11,z 12,z 13,z 14,z 15,z 16,z 17,z 18,z 19,z 20,z 21,z 22,z 23,z 24,z 25,z 26,z 27,z 28,z 29,z 30,z 31,z 32,z 33,z 34,z 35,z 36,z 37,z 38,z 39,z 40,z 41,z 42,z 43,z 44,z 45,z 46,z 47,z 48,z 49,z 50,z 51,z 52,z 53,z 54,z 55,z 56,z 57,z 58])(hlo:lo<=d5)(hg:Gn (OkC.ok (f:=f)) g)(hc:CdOK f r b)(hr1:r<w.length)(hr2:w.length<f.q)(hk:sC er w.length<=r)
  (hw:SlE H (.slice aw w.length cw) w) (g4:H.get d4=some (cdC f r b)) (g5:H.get d5=some [.slice none 0 0,.slice none 0 0]) (g7:H.get d7=some (fvC f)) (h8:SlE H (.slice a8 r c8) (ef g r b w)) (f9:H.get b9=some (elL (tab w.length (plc g w.length)))) (fb:H.get bb=some (elL (tab (sC er w.length+1) (gam (plc g w.length) er w.length)))) (hl:H.get bl=some (erL w.length er))
  (hR:∀v H',Keep d5 H H'->(¬ DecOK g r b w er->v=nr 17)->(DecOK g r b w er->RepOK g r b w er d5 v H')->R v H') :
  wpS cp lo (tl 6 uz) (eP ⟨0,0,[.node (.ld 2 true) (.cons (.var 5) .nil),.var 6],.skip,.plain⟩ R) S H:=by
 obtain⟨z,rfl⟩:=hS;have h2:=qle (f:=f);have hc0:=hc;obtain⟨c1,c2,c3⟩:=hc;have hX:=gC (kN hg) (dv hg) (n:=w.length) byO;have hl5:=Heap.get_lt g5;have htl:=aG (sC er w.length+1) (gam (plc g w.length) er w.length);have hgm:=zA (plc g w.length) er w.length;have hsl:(ef g r b w).length=r:=aG _ _;have hcs:co (ef g r b w)=syS g r b w:=rfl;have hga:=bK (sp:=none) fb htl;have hsk:=ft er w.length;unfold uz;simp only[tl,kB,aB];refine aQ ?_;refine aN (nT (f:=f) (Nat.le_refl _) h8 hga (by rw[hsl];omega) (by rw[htl];omega) r byO) ?_;rintro v H5 ⟨hx5,b35,hb35,rfl,f35⟩;rw[hgm,hcs]at f35;have hmin:min r ((ef g r b w).length+(tab (sC er w.length+1) (gam (plc g w.length) er w.length)).length-1)=r:=by rw[htl,hsl];omega
 rw[hmin]at f35 ⊢;clear hmin hga htl hgm fb hsl hcs;have hl5':=hx5.1;have htail:=w6 f35 (aG _ _) hk;have htd:(tab r (cv (syS g r b w) (gam (plc g w.length) er w.length))).drop (sC er w.length)=hO (plc g w.length) er w.length r (syS g r b w):=rfl;rw[htd]at htail;have htll:=iP (plc g w.length) er w.length r (syS g r b w);clear htd f35;(try simp only[aB]);refine aQ ?_;refine aA (D0 (f:=f) (by exact(by omega:lo<=H5.length)) (by exact htail) (by rw[htll];omega)) ?_;rintro v H2 ⟨hx2,vl,rfl,hvl⟩;have hvl:SlE H2 vl (cV (plc g w.length) er w.length r (syS g r b w)):=hvl;have hLn:(Reg.run (co (hO (plc g w.length) er w.length r (syS g r b w))) (hO (plc g w.length) er w.length r (syS g r b w)).length).L=Al (plc g w.length) er w.length r (syS g r b w):=rfl;rw[hLn];clear hLn htail htll;have hx2:=hx5.trans hx2;have hl2:=hx2.1;clear hx5 hl5';have hvl0:=hvl;obtain⟨a12,c12,rfl⟩:=hvl.len;clear hvl;generalize hlam:cV (plc g w.length) er w.length r (syS g r b w)=lam at *;have hlp:lam.length<=100000:=by
  have:=sZ (hO (plc g w.length) er w.length r (syS g r b w));rw[iP,DX]at this;have e:GC (hO (plc g w.length) er w.length r (syS g r b w))=lam:=hlam;rw[e]at this;omega
 generalize hXe:plc g w.length=X at *;have hXl:=aG w.length X;refine aC ?_;refine aa (fun i S H'=>Ext H2 H'/\∃vx bx vi bi,H2.length<=bx/\H2.length<=bi/\bx≠bi/\Own lo 1 H' vx bx (elL ((sel (cK X er lam) i).map X))/\Own lo 1 H' vi bi (jA (sel (cK X er lam) i))/\∃(z:Nat->Value),S=[z 0,.slice aw w.length cw,.slice (some ⟨bl,0,none⟩) w.length w.length,.int .i64 (sC er w.length:Nat),.pointer (some ⟨d4,0,none⟩),.pointer (some ⟨d5,0,none⟩),z 6,.pointer (some ⟨d7,0,none⟩),.slice a8 r c8,.slice (some ⟨b9,0,none⟩) w.length w.length,z 10,z 11,.slice a12 lam.length c12,.int .i64 (Al X er w.length r (syS g r b w):Nat),vx,vi,.int .i64 ((sel (isR X er lam) i).length:Nat),.int .i64 (i:Nat),z 18,z 19,z 20,z 21,z 22,z 23,z 24,z 25,z 26,z 27,z 28,z 29,z 30,z 31,z 32,z 33,z 34,z 35,z 36,z 37,z 38,z 39,z 40,z 41,z 42,z 43,z 44,z 45,z 46,z 47,z 48,z 49,z 50,z 51,z 52,z 53,z 54,z 55,z 56,z 57,z 58]) w.length ?_ ?_ ?_ ?_
 ·exact⟨Ext.refl _,_,H2.length,_,H2.length+1,Nat.le_refl _,byO,byO,Own.nil byO,Own.nil byO,aR rfl⟩
 ·rintro i S H' hi ⟨-,vx,bx,vi,bi,-,-,-,-,-,z,rfl⟩
  exact⟨_,aW,by simp⟩
 ·rintro i S H3 hi ⟨hx3,vx,bx,vi,bi,hbx,hbi,hbne,hox,hoi,z,rfl⟩
  have hx3':=hx2.trans hx3;have hl3:=hx3.1;have f9:=hx2.get f9;have gl:=hx3'.get hl;have g7':=hx3'.get g7;have f9':=hx3.get f9;have hXi:(tab w.length X).getD i 0=X i:=eW hi;have hsb:=ba (cK X er lam) i;have hsr:=ba (isR X er lam) i;have hs3:(sel (cK X er lam) i).length<=i:=ft _ i;have hs4:(sel (isR X er lam) i).length<=i:=ft _ i;have hbe:cK X er lam i=(er i || isR X er lam i):=rfl;have hre:isR X er lam i=(!er i&&decide (hor lam (inv (X i))=0)):=rfl;have hXne:=hX.ne i hi;cases hek:er i with
  | true=>
   rw[hek]at hbe hre;rw[hre]at hsr;rw[if_neg (by simp),List.append_nil]at hsr;rw[hbe]at hsb;rw[if_pos (by simp)]at hsb;rw[hsr];clear hbe hre hsr hXne;(try simp only[aB]);refine bP (t:=false) aW gZ nh (fun h=>by cases h) (fun _=>?_);(try simp only[aB]);refine bP (t:=false) aW gZ nh (fun h=>by cases h) (fun _=>?_);refine aC ?_;refine aS ?_ ?_<;>intro h
   ·cases h
   clear h;(try simp only[aB]);refine aS ?_ ?_<;>intro h
   case refine_2=>cases h
   clear h hek gl g7';obtain⟨bx',hox,hbx'⟩:=iO hox (H3.length+200) byO;obtain⟨bi',hoi,hbi'⟩:=iO hoi (H3.length+100) byO;refine aC ?_;refine aQ ?_;refine dG (c:=[.int .i64 ((X i).val:Nat)]) (hox.mono (Ext.app _ _)) (by simp;omega) byO byO (by rw[bq,ay₀];omega) aK (by simp) rfl rfl ?_;rintro vx' H6 hox6 hk6 hl6;have hE6:=Ext.app H3 [some [Value.int .i64 ((X i).val:Nat)]];simp only[as₀,ak₀,an₀]at hox6 hl6;replace hl6:H6.length<=H3.length+2/\H3.length+2<=H6.length:=byO;have hx6:=hk6.ext (hx3.trans hE6) byO;have hoi6:=(hoi.mono hE6).keep hk6 byO;have f9':=hx6.get f9;clear hox hoi;refine aC ?_;refine aQ ?_;refine dG (c:=[.int .i64 (i:Nat)]) (hoi6.mono (Ext.app _ _)) (by simp;omega) byO byO (by rw[j4];omega) aK (by simp) rfl rfl ?_;rintro vi' H7 hoi7 hk7 hl7;have hE7:=Ext.app H6 [some [Value.int .i64 (i:Nat)]];simp only[as₀,ak₀,an₀]at hoi7 hl7;replace hl7:H7.length<=H6.length+2/\H6.length+2<=H7.length:=byO;have hox7:=(hox6.mono hE7).keep hk7 byO;refine aC ?_;refine⟨hk7.ext (hx6.trans hE7) byO,vx',H3.length+(0+1),vi',H6.length+(0+1),byO,byO,byO,?_,?_,aR ncM⟩
   ·rw[hsb,List.map_append,ag₀,al₀,kf];exact hox7
   ·rw[hsb];simp only[jA,List.map_append,ag₀,al₀];exact hoi7
  | false=>
   rw[hek]at hbe hre;have hva:=(hvl0.mono hx3);by_cases h0:hor lam (inv (X i))=0
   ·have hr1':isR X er lam i=true:=by rw[hre,h0];simp
    rw[hr1']at hbe hsr;rw[hbe]at hsb;rw[if_pos (by simp)]at hsb hsr;have hrl:=congrArg List.length hsr;rw[as₀,List.length_singleton]at hrl;clear hsr hbe hre hr1';generalize hq1:(sel (isR X er lam) (i+1)).length=q1 at *;subst hrl;clear hq1;generalize (sel (isR X er lam) i).length=q0 at *;(try simp only[aB]);refine bP (t:=true) aW gZ nh (fun _=>⟨_,aW,?_⟩) (fun h=>by cases h);refine aN (kx (f:=f) (X i) hXne) ?_;rintro v H4 ⟨hx4,rfl⟩;have hl4:=hx4.1;(try simp only[aB]);refine bP (t:=true) aW gZ nh (fun _=>⟨_,aW,?_⟩) (fun h=>by cases h);refine aA (EE (f:=f) (by exact(by omega:lo<=H4.length)) (hva.mono hx4) byO (inv (X i))) ?_;rintro v H5 ⟨hx5,rfl⟩;rw[h0,lJ];have hx5:=hx4.trans hx5;have hox:=hox.mono hx5;have hoi:=hoi.mono hx5;have f9':=hx5.get f9';have gl:=hx5.get gl;have hx5:=hx3.trans hx5;have hl5':=hx5.1;clear hx4 h0 g7';refine aC ?_;refine aS ?_ ?_<;>intro h
    case refine_2=>exfalso;simp at h
    clear h;refine aC ?_;refine aS ?_ ?_<;>intro h
    case refine_2=>exfalso;simp at h
    clear h hek gl;obtain⟨bx',hox,hbx'⟩:=iO hox (H5.length+200) byO;obtain⟨bi',hoi,hbi'⟩:=iO hoi (H5.length+100) byO;refine aC ?_;refine aQ ?_;refine dG (c:=[.int .i64 ((X i).val:Nat)]) (hox.mono (Ext.app _ _)) (by simp;omega) byO byO (by rw[bq,ay₀];omega) aK (by simp) rfl rfl ?_;rintro vx' H6 hox6 hk6 hl6;have hE6:=Ext.app H5 [some [Value.int .i64 ((X i).val:Nat)]];simp only[as₀,ak₀,an₀]at hox6 hl6;replace hl6:H6.length<=H5.length+2/\H5.length+2<=H6.length:=byO;have hx6:=hk6.ext (hx5.trans hE6) byO;have hoi6:=(hoi.mono hE6).keep hk6 byO;have f9':=hx6.get f9;clear hox hoi;refine aC ?_;refine aQ ?_;refine dG (c:=[.int .i64 (i:Nat)]) (hoi6.mono (Ext.app _ _)) (by simp;omega) byO byO (by rw[j4];omega) aK (by simp) rfl rfl ?_;rintro vi' H7 hoi7 hk7 hl7;have hE7:=Ext.app H6 [some [Value.int .i64 (i:Nat)]];simp only[as₀,ak₀,an₀]at hoi7 hl7;replace hl7:H7.length<=H6.length+2/\H6.length+2<=H7.length:=byO;have hox7:=(hox6.mono hE7).keep hk7 byO;refine aC ?_;refine⟨hk7.ext (hx6.trans hE7) byO,vx',H5.length+(0+1),vi',H6.length+(0+1),byO,byO,byO,?_,?_,aR ncM⟩
    ·rw[hsb,List.map_append,ag₀,al₀,kf];exact hox7
    ·rw[hsb];simp only[jA,List.map_append,ag₀,al₀];exact hoi7
   ·have hr1':isR X er lam i=false:=by rw[hre];simp[h0]
    rw[hr1']at hbe hsr;rw[hbe]at hsb;rw[if_neg (by simp),List.append_nil]at hsb hsr;rw[hsb,hsr];have hne:=fT h0;clear hsr hbe hre hr1' hsb h0;(try simp only[aB]);refine bP (t:=true) aW gZ nh (fun _=>⟨_,aW,?_⟩) (fun h=>by cases h);refine aN (kx (f:=f) (X i) hXne) ?_;rintro v H4 ⟨hx4,rfl⟩;have hl4:=hx4.1;(try simp only[aB]);refine bP (t:=true) aW gZ nh (fun _=>⟨_,aW,?_⟩) (fun h=>by cases h);refine aA (EE (f:=f) (by exact(by omega:lo<=H4.length)) (hva.mono hx4) byO (inv (X i))) ?_;rintro v H5 ⟨hx5,rfl⟩;generalize (hor lam (inv (X i))).val=q at *;have hx5:=hx4.trans hx5;have hox:=hox.mono hx5;have hoi:=hoi.mono hx5;have gl:=hx5.get gl;have hx5:=hx3.trans hx5;clear hx4 g7';refine aC ?_;refine aS ?_ ?_<;>intro h
    ·exfalso;simp at h;omega
    clear h;refine aC ?_;refine aS ?_ ?_<;>intro h
    ·exfalso;simp at h;omega
    clear h hek gl;refine aC ?_;exact⟨hx5,vx,bx,vi,bi,hbx,hbi,hbne,hox,hoi,aR ncM⟩
 ·rintro S H3 ⟨hx3,vx,bx,vi,bi,hbx,hbi,hbne,hox,hoi,z,rfl⟩
  have hx3:=hx2.trans hx3;subst hXe;subst hlam;refine HE (f:=f) (aR rfl) hlo hg hc0 hr1 hr2 hk (hw.mono hx3) (hx3.get g4) (hx3.get g5) (hx3.get g7) (h8.mono hx3) (Sl.ofOwn hox) (Sl.ofOwn (enc:=qG) hoi) ?_;intro v H' k h1 h3;exact hR v H' ⟨Nat.le_trans hx3.1 k.len,fun j hj hne=>(k.eq j (bc₀ hj hx3.1) hne).trans (hx3.2 j hj)⟩ h1 h3
end
open Go.Abs
namespace XKa
def xtr:=zzi @Int.cast_ofNat_Int (zzi @ite_self.{1} (zzi @aF @aH))
end XKa
open XKa
theorem M4{ws:List Nat}{a:Nat}(hx:wd ws a<=255)(ha:a<=100000):Ev cp lo 186 [aD (wd ws a),aD (a+1)] H (fun v H'=>v=aD (unm ws a)/\H=H'):=by
 have e:((wd ws a:Int)+511-((149:Int)*((a+1:Nat):Int)).tmod 255).tmod 256=(unm ws a:Nat):=by
  unfold unm msk;have h:((149:Int)*((a+1:Nat):Int)).tmod 255=((149*(a+1)%255:Nat):Int):=by
   rw[Int.tmod_eq_emod_of_nonneg byO];omega
  rw[h,Int.tmod_eq_emod_of_nonneg byO];omega
 have h1:((149:Int)*((a+1:Nat):Int)).tmod 255=((149*(a+1)%255:Nat):Int):=by
  rw[Int.tmod_eq_emod_of_nonneg byO];omega
 have h2:149*(a+1)%255<255:=Nat.mod_lt _ byO;generalize wd ws a=x at hx e;generalize unm ws a=u at e;rw[h1]at e;generalize 149*(a+1)%255=y at h1 h2 e;refine stG rfl rfl ?_;unfold It;simp only[kB,aB];refine aL ?_;refine bM ?_;exact⟨rfl,rfl⟩
section
variable {A b0 sb rb lb n m t a:Nat}{G H:Heap}{out:List UInt8}{ad:Option Addr}{u f:Bool}
abbrev snC(a m t:Nat)(u:Bool)(ad:Option Addr)(n:Nat)(f:Bool):List Value:=[aD a,aD m,aD t,.bool u,.slice ad n n,.bool f]
abbrev zC:List Value:=[.int .i64 0,.int .i64 0,.int .i64 0,.bool false,.slice none 0 0,.bool false]
structure ScM (A:Nat)(G H:Heap)(b0 sb rb lb:Nat)(out:List UInt8)(ad:Option Addr)(n:Nat):Prop where
 own:∃b,(b≠sb/\b≠rb/\b≠lb)/\(b=b0\/G.length<=b)/\Own A 1 H (.slice ad n n) b (uU out)
 keep:Keep b0 G H
 sbG:G.length<=sb
 rbG:G.length<=rb
 ne:sb≠rb
 sbH:sb<H.length
 rbH:rb<H.length
 lbH:lb<H.length
def xk(A b0:Nat)(G:Heap)(r:Value)(H':Heap):Nat ⊕ (Nat×Nat×Nat×Bool×List UInt8×Bool)->Prop
 | .inl e=>(∃a m t u ad n f,r=.tuple #[.agg #[aD a,aD m,aD t,.bool u,.slice ad n n,.bool f],aD e])/\e≠0/\Keep b0 G H'
 | .inr (a,m,t,u,out,f)=>∃ad n b,r=.tuple #[.agg #[aD a,aD m,aD t,.bool u,.slice ad n n,.bool f],aD 0]/\Own A 1 H' (.slice ad n n) b (uU out)/\(b=b0\/G.length<=b)/\Keep b0 G H'
theorem ScM.start{x y:List Value}(h:Own A 1 G (.slice ad n n) b0 (uU out))(hA:A<=G.length):ScM A G (G++[some x,some y]) b0 G.length (G.length+1) (G.length+1) out ad n:=by
 have hx:Ext G (G++[some x,some y]):=Ext.app _ _;obtain⟨b1,h1,h2⟩:=iO h (G.length+2) byO;exact⟨⟨b1,byO,byO,h1.mono hx⟩,Ext.keep hx,byO,byO,byO,by simp,by simp,by simp⟩
theorem ScM.mono{H':Heap}(h:ScM A G H b0 sb rb lb out ad n)(e:Ext H H'):ScM A G H' b0 sb rb lb out ad n:=by
 obtain⟨b,h1,h2,h3⟩:=h.own;have hl:=e.1;exact⟨⟨b,h1,h2,h3.mono e⟩,dW h.keep (.inl rfl) (Ext.keep e),h.sbG,h.rbG,h.ne,bc₀ h.sbH hl,bc₀ h.rbH hl,bc₀ h.lbH hl⟩
theorem ScM.set{c:Nat}{x:List Value}(h:ScM A G H b0 sb rb lb out ad n)(hc:c=sb\/c=rb):ScM A G (List.set H c (some x)) b0 sb rb lb out ad n:=by
 obtain⟨b,h1,h2,h3⟩:=h.own;refine⟨⟨b,h1,h2,h3.keep keepSet byO⟩,dW h.keep (.inr ?_) (keepSet (b:=c)),h.sbG,h.rbG,h.ne,by simpa using h.sbH,by simpa using h.rbH,by simpa using h.lbH⟩;have:=h.sbG;have:=h.rbG;omega
theorem ScM.prot{x:List Value}(h:ScM A G H b0 sb rb lb out ad n)(hA:A<=sb):ScM A G (H++[some x]) b0 sb rb H.length out ad n:=by
 obtain⟨b,h1,h2,h3⟩:=h.own;have hx:Ext H (H++[some x]):=Ext.app _ _;have hs:=h.sbH;have hr:=h.rbH;have hk:=h.keep.len;obtain⟨b1,g1,g2⟩:=iO h3 (H.length+1) byO;exact⟨⟨b1,byO,byO,g1.mono hx⟩,dW h.keep (.inl rfl) (Ext.keep hx),h.sbG,h.rbG,h.ne,by simp;omega,by simp;omega,by simp⟩
theorem ScM.inr{H':Heap}(h:ScM A G H b0 sb rb lb out ad n){r:Value}(hr:r=.tuple #[.agg #[aD a,aD m,aD t,.bool u,.slice ad n n,.bool f],aD 0])(e:H=H'):xk A b0 G r H' (.inr (a,m,t,u,out,f)):=by
 subst e;obtain⟨b,h1,h2,h3⟩:=h.own;exact⟨_,_,b,hr,h3,h2,h.keep⟩
theorem ScM.inl{H':Heap}{e:Nat}(h:ScM A G H b0 sb rb lb out ad n){r:Value}(hr:r=.tuple #[.agg #[aD a,aD m,aD t,.bool u,.slice ad n n,.bool f],aD e])(he:e≠0)(eH:H=H'):xk A b0 G r H' (.inl e):=
 ⟨⟨_,_,_,_,_,_,_,hr⟩,he,eH▸h.keep⟩
theorem ScM.step{H':Heap}{b b' n':Nat}{out':List UInt8}{ad':Option Addr}(h:ScM A G H b0 sb rb lb out ad n)(hb:b≠sb/\b≠rb/\b≠lb)(hg:b=b0\/G.length<=b)(ho:Own A 1 H' (.slice ad' n' n') b' (uU out'))(hb':b'=b\/H.length<=b')(hk:Keep b H H') :
  ScM A G H' b0 sb rb lb out' ad' n'/\H'.get sb=H.get sb/\H'.get rb=H.get rb/\H'.get lb=H.get lb:=by
 have hs:=h.sbH;have hr:=h.rbH;have hl:=h.lbH;have h1:=hk.len;have h2:=h.keep.len;exact⟨⟨⟨b',byO,byO,ho⟩,dW h.keep hg hk,h.sbG,h.rbG,h.ne,byO,byO,byO⟩,hk.eq _ hs (fun e=>hb.1 e.symm),hk.eq _ hr (fun e=>hb.2.1 e.symm),hk.eq _ hl (fun e=>hb.2.2 e.symm)⟩
theorem rI{cp:FuncId->Option CF}{lo k:Nat}{z:List Value}{l:List UInt8}(h:ScM A G H b0 sb rb lb out ad n)(hA:A<=sb)(hlo:lo<=A)(hn:l.length=k)(hn0:0<k)(hbig:out.length+k<=20000)
  (K:∀(ad:Option Addr) (m:Nat) (H2:Heap),ScM A G H2 b0 sb rb lb (out++l) ad m->H2.get sb=H.get sb->H2.get rb=H.get rb->H2.get lb=H.get lb->R (.slice ad m m) H2):wpH cp lo (.app 1 z) [.slice ad n n,.slice (some ⟨H.length,0,none⟩) k k] (H++[some (uU l)]) R:=by
 obtain⟨b,h1,h2,h3⟩:=h.own;have hx:Ext H (H++[some (uU l)]):=Ext.app _ _;have hl1:(H++[some (uU l)]).length=H.length+1:=by simp
 have hs:=h.sbH;have hr:=h.rbH;have hq:=h.lbH;refine dG ((h3.lower hlo).mono hx) byO byO hn0 (by simp;omega) aK (c:=uU l) (by simp;omega) (by rw[List.drop_zero,List.take_of_length_le (by simp;omega)]) (O3 l) ?_;intro w' H2 ho hk hl;obtain⟨ad',m,rfl⟩:=wM ho;rw[hl1]at ho hl;obtain⟨h4,h5⟩:=ho;have hk2:Keep b H H2:=dW (Ext.keep hx) (.inl rfl) hk;obtain⟨g1,g2,g3,g4⟩:=h.step h1 h2 (b':=H.length+1) (out':=out++l) ⟨byO,by simpa[uU]using h5⟩ byO hk2;exact K ad' m H2 g1 g2 g3 g4
def Pz(a m:Nat):Nat ⊕ (Nat×Bool×List UInt8)->Nat ⊕ (Nat×Nat×Nat×Bool×List UInt8×Bool)
 | .inl e=>.inl e
 | .inr s=>.inr (a,m,s.1,s.2.1,s.2.2,false)
theorem SF{lo k:Nat}(h:Own A 1 G (.slice ad n n) b0 (uU out))(hA:A<=G.length)(hlo:lo<=A)(hb:out.length+1<=20000)(hm:m=1\/m=2)(ht:t<4)(hk:k<40):Ev cp lo 145 [.agg #[aD a,aD m,aD t,.bool u,.slice ad n n,.bool false],aD k] G (fun r H'=>xk A b0 G r H' (Pz a m (iv (m==2) (t,u,out) k))):=by
 have hlG:lo<=G.length:=byO;unfold iv;refine stG rfl rfl ?_;unfold IZ;simp only[kB,aB];refine aL ?_;have hm0:=ScM.start (x:=[aD a,aD m,aD t,.bool u,.slice ad n n,.bool false]) (y:=[Value.int .i64 0,Value.int .i64 0,Value.int .i64 0,.bool false,.slice none 0 0,.bool false]) h hA;have gs:(G++[some [aD a,aD m,aD t,.bool u,.slice ad n n,.bool false],some [Value.int .i64 0,Value.int .i64 0,Value.int .i64 0,.bool false,.slice none 0 0,.bool false]]).get G.length=some [aD a,aD m,aD t,.bool u,.slice ad n n,.bool false]:=aK;have gr:(G++[some [aD a,aD m,aD t,.bool u,.slice ad n n,.bool false],some [Value.int .i64 0,Value.int .i64 0,Value.int .i64 0,.bool false,.slice none 0 0,.bool false]]).get (G.length+1)=some [Value.int .i64 0,Value.int .i64 0,Value.int .i64 0,.bool false,.slice none 0 0,.bool false]:=by rw[bI];rfl
 generalize G++[some [aD a,aD m,aD t,.bool u,.slice ad n n,.bool false],some [Value.int .i64 0,Value.int .i64 0,Value.int .i64 0,.bool false,.slice none 0 0,.bool false]]=H1 at *;generalize G.length+1=rb at *;have hsb:=hm0.sbH;refine dh ?_;refine aA (Qu hm ht hk byO) ?_;rintro r H2 ⟨rfl,hx⟩;have hm2:=hm0.mono hx;have gs:=hx.get gs;have gr:=hx.get gr;have hlen:=hx.1;clear hm0 hx;have hc8:=yd (b:=m==2) (s:=t) hk;generalize hZ (m==2) t k=c at *;have hne:=hm2.ne;have hrg:=hm2.rbG;have hsb:=hm2.sbH;have hrb:=hm2.rbH;generalize G.length=sb at *;refine aL ?_;by_cases h1:t=0/\k<=2
 ·rw[if_pos h1]
  obtain⟨h1,h2⟩:=h1;subst h1;have e2:decide ((k:Int)<3)=true:=decide_eq_true byO;refine aP ?_ ?_<;>intro h
  ·clear h
   refine aL ?_;refine bM ?_;exact((hm2.set (.inl rfl)).set (.inr rfl)).inr rfl rfl
  ·simp at h
 rw[if_neg h1];have e1:(decide ((t:Int)=0)&&decide ((k:Int)<3))=false:=by simp only[Bool.and_eq_false_iff,ai₀];omega
 refine aP ?_ ?_<;>intro h
 ·exfalso;first|(rw[e1]at h;cases h)|cases h
 clear h e1 h1;(try simp only[aB]);by_cases h1:t=2/\k=30/\u=false
 ·rw[if_pos h1]
  obtain⟨h1,h2,h3⟩:=h1;subst h1 h2 h3;refine aP ?_ ?_<;>intro h
  ·clear h
   refine aL ?_;refine bM ?_;exact((((hm2.set (.inl rfl)).set (.inl rfl)).set (.inr rfl))).inr rfl rfl
  ·simp at h
 rw[if_neg h1];have e1:((decide ((t:Int)=2)&&decide ((k:Int)=30))&&!u)=false:=by
  cases u
  ·have:¬ (t=2/\k=30):=fun e=>h1 ⟨e.1,e.2,rfl⟩
   simp only[Bool.not_false,Bool.and_true,Bool.and_eq_false_iff,ai₀];omega
  ·simp
 refine aP ?_ ?_<;>intro h
 ·exfalso;first|(rw[e1]at h;cases h)|cases h
 clear h e1 h1;(try simp only[aB]);by_cases h1:c=128
 ·rw[if_pos h1]
  subst h1;refine aP ?_ ?_<;>intro h
  ·clear h
   refine aL ?_;refine bM ?_;exact(hm2.set (.inr rfl)).inl rfl byO rfl
  ·simp at h
 simp only[if_neg h1];have hc7:c<=127:=byO;clear h1 hc8;refine aP ?_ ?_<;>intro h
 ·exfalso;simp at h;omega
 clear h;obtain⟨x,hx⟩:∃x,False\/(if u=true then c+128 else c)=x:=⟨_,.inr rfl⟩;have hx2:x<=255:=by
  have:=hx.resolve_left id;split at this<;>omega
 rw[hx.resolve_left id];(try simp only[aB]);refine lM (fun S' H'=>H2=H'/\∃(z:Nat->Value),S'=[z 0,z 1,.pointer (some ⟨sb,0,none⟩),.pointer (some ⟨rb,0,none⟩),z 4,.int .i64 (x:Nat),z 6,z 7,z 8,z 9]) ?_ ?_
 ·cases u
  ·obtain rfl:c=x:=hx.resolve_left id
   refine aP ?_ ?_<;>intro h
   ·cases h
   (try simp only[aB]);exact⟨by trivial,aR rfl⟩
  ·obtain rfl:c+128=x:=hx.resolve_left id
   refine aP ?_ ?_<;>intro h
   ·refine aL ?_
    exact⟨by trivial,aR ncM⟩
   ·cases h
 rintro S' H' ⟨rfl,z,rfl⟩;clear hx;refine aL ?_;rw[<-de (n:=x) byO];refine dh ?_;refine rI (k:=1) (l:=[UInt8.ofNat x]) hm2 hA hlo rfl byO byO ?_;rintro ad' q H3 hm3 e1 e2 -;have gs:=e1.trans gs;have gr:=e2.trans gr;have hsb:=hm3.sbH;have hrb:=hm3.rbH;clear e1 e2;refine aL ?_;refine bM ?_;exact((((hm3.set (.inl rfl)).set (.inl rfl)).set (.inl rfl)).set (.inr rfl)).inr rfl rfl
end
open Go.Abs
section
variable {b0 n m t a lo:Nat}{A0 G:Heap}{out:List UInt8}{ad:Option Addr}{u:Bool}{wv:Value}{ws:List Nat}
theorem ScM.ext{A:Heap}{H:Heap}{sb rb lb:Nat}(h:ScM A.length G H b0 sb rb lb out ad n)(e:Ext A G)(hb:A.length<=b0):Ext A H:=h.keep.ext e hb
theorem AG{lower:Bool}{s s':Nat×Bool×List UInt8}{v:Nat}(h:iv lower s v=.inr s'):s'.1<4:=by
 unfold iv at h;split at h
 ·cases h;simp only;omega
 split at h
 ·cases h;simp only;omega
 split at h
 ·cases h
 ·cases h;simp only;omega
def Ek(ws:List Nat)(a m t:Nat)(u:Bool)(out:List UInt8):Nat ⊕ (Nat×Nat×Nat×Bool×List UInt8×Bool):=
 match jd ws a with
 | .inl e=>.inl e
 | .inr none=>.inr (a+1,0,0,false,out,false)
 | .inr (some v)=>if m=3 then .inr (a+2,3,t,u,out++xK v 3,false) else Pz (a+2) m (vK (m==2) v (t,u,out) 3)
theorem SD(h:Own A0.length 1 G (.slice ad n n) b0 (uU out))(hx:Ext A0 G)(hw:SlN A0 wv ws)(hlo:lo<=A0.length)(hb:out.length+3<=20000)(hal:a<ws.length)(hwl:ws.length<=8192)(hby:∀k,wd ws k<=255)(hm:m=1\/m=2\/m=3)(ht:t<4) :
  Ev cp lo 93 [wv,.agg #[aD a,aD m,aD t,.bool u,.slice ad n n,.bool false]] G (fun r H'=>xk A0.length b0 G r H' (Ek ws a m t u out)):=by
 have hA:=hx.1;have hlG:lo<=G.length:=byO;have hb0:=h.1;obtain⟨aw,cw,rfl⟩:=hw.len;unfold Ek jd;refine stG rfl rfl ?_;unfold Nb;simp only[kB,aB];refine aL ?_;have hm0:=ScM.start (x:=snC a m t u ad n false) (y:=zC) h hA;have gs:(G++[some (snC a m t u ad n false),some zC]).get G.length=some (snC a m t u ad n false):=aK;have gr:(G++[some (snC a m t u ad n false),some zC]).get (G.length+1)=some zC:=by rw[bI];rfl
 generalize G++[some (snC a m t u ad n false),some zC]=H1 at *;generalize G.length+1=rb at *;have hne:=hm0.ne;have hrg:=hm0.rbG;have hsb:=hm0.sbH;have hrb:=hm0.rbH;have hw1:=hw.mono (hm0.ext hx hb0);generalize G.length=sb at *;obtain⟨b1,o1,x1,i1,g1,e1⟩:=jQ hw1 hal;have hy1:=hby a;rw[if_neg (show ¬ ws.length<=a by omega)];generalize hv1:wd ws a=v1 at *;by_cases h254:v1=254
 ·rw[if_pos h254]
  subst h254;refine aP ?_ ?_<;>intro h
  ·clear h
   refine aL ?_;refine bM ?_;exact(hm0.set (.inr rfl)).inr rfl rfl
  ·simp at h
 rw[if_neg h254];have hd:decide ((v1:Int)=254)=false:=decide_eq_false byO;refine aP ?_ ?_<;>intro h
 ·exfalso;first|(rw[hd]at h;cases h)|cases h
 clear h hd h254;refine aL ?_;by_cases hl1:ws.length<=a+1
 ·rw[if_pos hl1]
  have hd:decide ((a:Int)+1=(ws.length:Nat))=true:=decide_eq_true byO;refine aP ?_ ?_<;>intro h
  ·clear h hd
   refine aL ?_;refine bM ?_;exact(hm0.set (.inr rfl)).inl rfl byO rfl
  ·exfalso;first|(rw[hd]at h;cases h)|cases h
 rw[if_neg hl1];obtain⟨b2,o2,x2,i2,g2,e2⟩:=jQ hw1 (show a+1<ws.length by omega);have hy2:=hby (a+1);generalize hv2:wd ws (a+1)=v2 at *;simp only[ap₀,Int.natCast_one]at i2;have hd:decide ((a:Int)+1=(ws.length:Nat))=false:=decide_eq_false byO;refine aP ?_ ?_<;>intro h
 ·exfalso;first|(rw[hd]at h;cases h)|cases h
 clear h hd hl1;refine aL ?_;by_cases hn:256*v1+v2<1\/64000<256*v1+v2
 ·have hdd:(decide (256*(v1:Int)+(v2:Nat)-1<0) || decide (256*(v1:Int)+(v2:Nat)-1>=64000))=true:=by simp;omega
  rw[if_pos hn];refine aP ?_ ?_<;>intro h
  ·refine aL ?_
   refine bM ?_;exact(hm0.set (.inr rfl)).inl rfl byO rfl
  ·simp at h
 rw[if_neg hn];obtain⟨q,hnn,hnl,hni⟩:∃q:Nat,256*v1+v2-1=q/\q<64000/\256*(v1:Int)+(v2:Nat)-1=(q:Nat):=⟨_,rfl,byO,byO⟩;rw[hnn];rw[hni];clear hnn hni hn;have q1:(q:Int).tdiv 1600=((q/1600:Nat):Int):=by rw[Int.tdiv_eq_ediv_of_nonneg byO];omega
 have q2:(q:Int).tdiv 40=((q/40:Nat):Int):=by rw[Int.tdiv_eq_ediv_of_nonneg byO];omega
 have q3:((q/40:Nat):Int).tmod 40=((q/40%40:Nat):Int):=by rw[Int.tmod_eq_emod_of_nonneg byO];omega
 have q4:(q:Int).tmod 40=((q%40:Nat):Int):=by rw[Int.tmod_eq_emod_of_nonneg byO];omega
 have r1:q/1600<=39:=byO;have r2:q/40%40<=39:=byO;have r3:q%40<=39:=byO;have r4:q/40<=1600:=byO;generalize q/1600=w1 at *;generalize q/40%40=w2 at *;generalize q%40=w3 at *;generalize q/40=q40 at *;have hdd1:decide ((q:Int)<0)=false:=decide_eq_false byO;have hdd2:decide ((q:Int)>=64000)=false:=decide_eq_false byO;have hdd3:decide ((64000:Int)<=(q:Nat))=false:=decide_eq_false byO;refine aP ?_ ?_<;>intro h
 ·exfalso;first|(simp at h;done)|cases h
 clear h hdd1 hdd2 hdd3;refine aL ?_;change wpS cp lo _ _ _ (List.set H1 sb (some (snC (a+2) m t u ad n false))++[some [aD w1,aD w2,aD w3]]);have hm1:=hm0.set (c:=sb) (x:=snC (a+2) m t u ad n false) (.inl rfl);have gs1:Heap.get (List.set H1 sb (some (snC (a+2) m t u ad n false))) sb=some (snC (a+2) m t u ad n false):=aF hsb;have gr1:Heap.get (List.set H1 sb (some (snC (a+2) m t u ad n false))) rb=some zC:=by rw[aH hne];exact gr
 have hle:H1.length=(List.set H1 sb (some (snC (a+2) m t u ad n false))).length:=by simp
 generalize List.set H1 sb (some (snC (a+2) m t u ad n false))=H2 at *;rw[hle];have hx2:=Ext.app H2 [some [aD w1,aD w2,aD w3]];have hm2:=hm1.prot (x:=[aD w1,aD w2,aD w3]) hA;have gl:Heap.get (H2++[some [aD w1,aD w2,aD w3]]) H2.length=some [aD w1,aD w2,aD w3]:=aK;have gs:=hx2.get gs1;have gr:=hx2.get gr1;clear hx2 hm1 hm0 gs1 gr1 g1 g2 i1 i2 e1 e2 hw1 hw hx hle hby hsb hrb;generalize H2++[some [aD w1,aD w2,aD w3]]=H3 at *;generalize H2.length=lb at *;have hel:False\/∀k,k<3->[aD w1,aD w2,aD w3][k]?=some (aD (u3 (w1,w2,w3) k)):=.inr (by
  intro k hk;have:k=0\/k=1\/k=2:=byO;rcases this with rfl|rfl|rfl<;>rfl)
 have h39:∀k,u3 (w1,w2,w3) k<=39:=by
  intro k;unfold u3;split<;>assumption
 obtain⟨w,hww⟩:∃w,w=(w1,w2,w3):=⟨_,rfl⟩;rw[<-hww]at hel h39 ⊢;obtain⟨X,hX⟩:∃X,X=[aD w1,aD w2,aD w3]:=⟨_,rfl⟩;have hXl:X.length=3:=by rw[hX];rfl
 rw[<-hX]at hel gl;clear hX hww q1 q2 q3 q4 r1 r2 r3 r4;by_cases h3:m=3
 ·subst h3
  rw[if_pos rfl];refine aa (fun k S H'=>(∃ad n,ScM A0.length G H' b0 sb rb lb (out++xK w k) ad n/\H'.get sb=some (snC (a+2) 3 t u ad n false)/\H'.get rb=some zC/\H'.get lb=some X)/\∃(z:Nat->Value),S=[z 0,z 1,.pointer (some ⟨sb,0,none⟩),.pointer (some ⟨rb,0,none⟩),z 4,z 5,.slice (some ⟨lb,0,none⟩) 3 3,.int .i64 0,.int .i64 (k:Nat),z 9,z 10,z 11,z 12,z 13,z 14,z 15,z 16]) 3 ?_ ?_ ?_ ?_
  ·exact⟨⟨ad,n,by simpa[xK]using hm2,gs,gr,gl⟩,aR rfl⟩
  ·rintro k S H' hk ⟨-,z,rfl⟩
   exact⟨decide ((k:Int)<3),by simp(disch:=try exact dO)only[evB,xtr,Nat.reduceAdd,Nat.reduceBEq,Int.reduceToNat, *],by simp;omega⟩
  ·clear hm2 gs gr gl
   rintro k S H' hk ⟨⟨ad,n,hm2,gs,gr,gl⟩,z,rfl⟩;have hxk:=hel.resolve_left id k hk;have hxv:=h39 k;have hxs:=AJ w k;have hxl:=uv w k;have hsb:=hm2.sbH;have hrb:=hm2.rbH;generalize u3 w k=x at *;refine aL ?_;refine aP ?_ ?_<;>intro h
   ·clear h
    (try simp only[aB]);refine dh ?_;refine aN (Ri (k:=x) byO byO) ?_;rintro r H5 ⟨rfl,hx5⟩;have hm3:=hm2.mono hx5;have gs:=hx5.get gs;have gr:=hx5.get gr;have gl:=hx5.get gl;have hc:=AK (k:=x) byO;generalize jT x=c at *;clear hm2 hx5;refine aL ?_;rw[<-de (n:=c) byO];refine dh ?_;refine rI (k:=1) (l:=[UInt8.ofNat c]) hm3 hA hlo rfl byO (by rw[as₀,hxl];omega) ?_;intro ad' q' H6 hm6 e1 e2 e3;have gs:=e1.trans gs;have gr:=e2.trans gr;have gl:=e3.trans gl;have hsb:=hm6.sbH;have hlb:=hm6.lbH;clear e1 e2 e3 hm3;rw[List.append_assoc,<-hxs]at hm6;have hne2:lb≠sb:=by rintro rfl;rw[gs]at gl;injection gl with gl;rw[<-gl]at hXl;simp at hXl
    have hm7:=hm6.set (c:=sb) (x:=snC (a+2) 3 t u ad' q' false) (.inl rfl);refine aL ?_;exact⟨⟨ad',q',hm7,aF hsb,by rw[aH hne];exact gr,by rw[aH (fun e=>hne2 e.symm)];exact gl⟩,aR ncM⟩
   ·simp at h
  ·rintro S H' ⟨⟨ad,n,hm2,gs,gr,gl⟩,z,rfl⟩
   have hsb:=hm2.sbH;have hrb:=hm2.rbH;refine aL ?_;refine bM ?_;exact(hm2.set (.inr rfl)).inr rfl rfl
 rw[if_neg h3];have hm12:m=1\/m=2:=byO;have hd3:decide ((m:Int)=3)=false:=decide_eq_false byO;clear hm;refine aY (fun i S H'=>∃k e,((k<=3/\i=3-k)/\H'.get rb=some zC/\((e=0/\∃s ad n,(False\/vK (m==2) w (t,u,out) k=.inr s)/\(s.1<4/\s.2.2.length<=out.length+k)/\ScM A0.length G H' b0 sb rb lb s.2.2 ad n/\H'.get sb=some (snC (a+2) m s.1 s.2.1 ad n false)/\H'.get lb=some X) \/
   (1<=e/\(False\/vK (m==2) w (t,u,out) 3=.inl e)/\Keep b0 G H'/\(sb<H'.length/\rb<H'.length)/\∃a m t u ad n f,H'.get sb=some (snC a m t u ad n f))))/\∃(z:Nat->Value),S=[z 0,z 1,.pointer (some ⟨sb,0,none⟩),.pointer (some ⟨rb,0,none⟩),z 4,z 5,.slice (some ⟨lb,0,none⟩) 3 3,aD e,.int .i64 (k:Nat),z 9,z 10,z 11,z 12,z 13,z 14,z 15,z 16]) 3 ?_ ?_
 ·exact⟨0,0,⟨⟨byO,rfl⟩,gr,.inl ⟨rfl,(t,u,out),ad,n,.inr rfl,⟨ht,by simp⟩,hm2,gs,gl⟩⟩,aR rfl⟩
 have hrG:=hm2.rbG;have hsG:=hm2.sbG;clear hm2 gs gr gl;rintro i S H' ⟨k,e,⟨⟨hk,rfl⟩,gr,hcs⟩,z,rfl⟩;rcases hcs with ⟨rfl,⟨t',u',out'⟩,ad,n,hv,⟨ht',hol⟩,hm2,gs,gl⟩|⟨he,hv,hke,⟨hsb,hrb⟩,a',m',t',u',ad',n',f',gs⟩
 ·simp only at ht' hol hm2 gs
  have hsb:=hm2.sbH;have hrb:=hm2.rbH;by_cases hk3:k=3
  ·subst hk3
   rw[hv.resolve_left id];(try simp only[aB]);refine aP ?_ ?_<;>intro h
   ·simp at h
   clear h;refine aL ?_;refine bM ?_;exact(hm2.set (.inr rfl)).inr rfl rfl
  have hk2:k<3:=byO;have hxk:=hel.resolve_left id k hk2;have hxv:=h39 k;have hvn:vK (m==2) w (t,u,out) (k+1)=iv (m==2) (t',u',out') (u3 w k):=by
   show(match vK (m==2) w (t,u,out) k with | .inl e=>Sum.inl e | .inr s'=>iv (m==2) s' (u3 w k))=_;rw[hv.resolve_left id]
  generalize u3 w k=x at *;obtain⟨b,hb1,hb2,ho⟩:=hm2.own;have hvp:=SF (lo:=lo) (a:=a+2) (k:=x) (u:=u') ho byO hlo byO hm12 ht' byO;replace hvp:False\/_:=.inr hvp;replace hvn:False\/_:=.inr hvn;clear hv hk3;(try simp only[aB]);refine aP ?_ ?_<;>intro h
  ·clear h
   refine aL ?_;refine aP ?_ ?_<;>intro h
   ·exfalso;first|(rw[hd3]at h;cases h)|cases h
   clear h;(try simp only[aB]);refine dh ?_;refine fV (first:=#[]) (cap:=#[]) (args:=[.agg #[aD (a+2),aD m,aD t',.bool u',.slice ad n n,.bool false],aD x]) (hvp.resolve_left id) ?_;intro r H5 hr;clear hvp;cases hvs:iv (m==2) (t',u',out') x with
   | inl e1=>
    rw[hvs]at hr hvn;obtain⟨⟨a',m',t2,u2,ad',n',f',rfl⟩,he,hk5⟩:=hr;have gr5:=hk5.get gr (fun e=>hb1.2.1 e.symm);have gs5:=hk5.get gs (fun e=>hb1.1 e.symm);have hl5:=hk5.len;have hk6:=dW hm2.keep hb2 hk5;have hv3:vK (m==2) w (t,u,out) 3=.inl e1:=by
     rw[show 3=k+1+(2-k) by omega];exact yU (hvn.resolve_left id) _
    replace hv3:False\/_:=.inr hv3;clear hvn gs gr gl hm2 hb1 hb2 ho;refine aL ?_;simp only[ak];exact⟨3-(k+1),byO,k+1,e1,⟨⟨byO,rfl⟩,by rw[aH hne];exact gr5,.inr ⟨byO,hv3,dW hk6 (.inr hsG) keepSet,⟨by simp;omega,by simp;omega⟩,a',m',t2,u2,ad',n',f',aF byO⟩⟩,aR ncM⟩
   | inr s1=>
    rw[hvs]at hr hvn;obtain⟨ad',n',b',rfl,ho',hb',hk5⟩:=hr;have hs4:=AG hvs;have hs5:=nf hvs;obtain⟨hm5,e1,e2,e3⟩:=hm2.step hb1 hb2 ho' hb' hk5;have gs5:=e1.trans gs;have gr5:=e2.trans gr;have gl5:=e3.trans gl;clear e1 e2 e3 gs gr gl hm2 hb1 hb2 ho hvs hb' hk5 ho';obtain⟨t2,u2,out2⟩:=s1;simp only at hs4 hs5 hm5 hvn;have hsb:=hm5.sbH;have hrb:=hm5.rbH;have hne2:lb≠sb:=by rintro rfl;rw[gs5]at gl5;injection gl5 with gl5;rw[<-gl5]at hXl;simp at hXl
    have hm7:=hm5.set (c:=sb) (x:=snC (a+2) m t2 u2 ad' n' false) (.inl rfl);refine aL ?_;simp only[ak];exact⟨3-(k+1),byO,k+1,0,⟨⟨byO,rfl⟩,by rw[aH hne];exact gr5,.inl ⟨rfl,(t2,u2,out2),ad',n',hvn,⟨hs4,by simp only;omega⟩,hm7,aF hsb,by rw[aH (fun e=>hne2 e.symm)];exact gl5⟩⟩,aR ncM⟩
  ·exfalso;simp at h;omega
 ·(try simp only[aB])
  refine aP ?_ ?_<;>intro h
  ·exfalso;simp at h;omega
  clear h;refine aL ?_;refine bM ?_;rw[hv.resolve_left id];exact⟨⟨_,_,_,_,_,_,_,rfl⟩,byO,dW hke (.inr byO) keepSet⟩
end
end Go.Proofs.YtmnlgdpdgjbfgaaGreat
