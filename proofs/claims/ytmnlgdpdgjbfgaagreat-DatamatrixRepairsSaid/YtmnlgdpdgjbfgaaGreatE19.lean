/- Lemmas. -/
import Derived.Test.YtmnlgdpdgjbfgaaGreatE18
set_option linter.unusedVariables false
set_option linter.unusedSimpArgs false
set_option linter.unusedSectionVars false
namespace Go.Proofs.YtmnlgdpdgjbfgaaGreat
open Go.Abs Go.RS
set_option maxRecDepth 20000
section
variable {f:FD}[OkC f]
theorem sH(s:List (El f)):(te s).length≤s.length+1:=by
 have h1:=ic (tab (bml (co s) s.length).1 (Reg.run (co s) s.length).C)
 rw[aE]at h1
 have h2:=(mD (co s) s.length).1
 unfold te;omega
theorem E6{H:Heap}{v:Value}{l:List Nat}(h:Sl qQ H v l)(hl:0<l.length):∃b o sp cap xs,v=.slice (some ⟨b,o,sp⟩) l.length cap∧H.get b=some xs∧(∀i,i<l.length→xs[o+i]?=some (.int .i64 ((l.getD i 0:Nat):Int)))∧o+l.length≤xs.length:=by
 obtain⟨b,o,sp,cap,xs,h1,h2,h3,h4⟩:=h.els 0 hl
 exact⟨b,o,sp,cap,xs,h1,h2,h3,h4⟩
theorem Fu{α:Type}{enc:α→Value}{H H':Heap}{v:Value}{l:List α}{n b c:Nat}(h:Sl enc H v l)(hn:NewV n v)(e:Keep2 b c H H')(hb:b<n)(hc:c<n):Sl enc H' v l:=by
 rcases h with h|⟨b',o,sp,cap,xs,h1,h2,h3⟩
 ·exact .inl h
 ·have:=hn _ _ _ _ _ h1
  exact .inr ⟨b',o,sp,cap,xs,h1,e.get h2 (by omega) (by omega),h3⟩
def RepOK(g:El f)(r b:Nat)(w:List (El f))(er:Nat→Bool)(N:Nat)(v:Value)(H':Heap):Prop:=∃vw vc,v=.tuple #[.agg #[vw,vc],.int .i64 0]∧SlE H' vw (fD g r b w er)∧Sl qQ H' vc (sel (fun i=>decide (co (fD g r b w er) i≠co w i)) w.length)∧NewV N vw
theorem RepOK.le{g:El f}{r b:Nat}{w:List (El f)}{er:Nat→Bool}{N M:Nat}{v:Value}{H:Heap}(h:RepOK g r b w er N v H)(hm:M≤N):RepOK g r b w er M v H:=by
 obtain⟨a,c,h1,h2,h3,h4⟩:=h
 exact⟨a,c,h1,h2,h3,fun b o sp k c e=>Nat.le_trans hm (h4 b o sp k c e)⟩
set_option linter.defProp false in
def lW:=And.intro @Int.cast_ofNat_Int (And.intro @fv.eq_1 (And.intro @fvf.eq_1 (And.intro @ite_self.{1} (And.intro @iI (And.intro @iE (And.intro @iA (And.intro @cdC.eq_1 (And.intro @arC.eq_1 (And.intro @fvC.eq_1 (And.intro @iL (And.intro @bM (And.intro @eI (And.intro @fJ (And.intro @yP @th))))))))))))))
theorem iT{P:Prop}(h:P:=by simp(disch:=first|omega|(simp only[aK];omega))only[evB,lW,Nat.reduceAdd,Nat.reduceBEq, *];rfl):P:=h
theorem iN{cp:FuncId→Option CF}{lo:Nat}{l:List (Nat×E)}{chk:List E}{Q:aS}{S:List Value}{H:Heap}{vs:List (Nat×Value)}{S':List Value}(k:Q .normal S' H)(h:evSets S H l=some vs:=by exact iT)(hc:evChk S H chk=true:=by simp(disch:=first|omega|(simp only[aK];omega))only[evB,lW,Nat.reduceAdd,Nat.reduceBEq, *])(hS:setAll S vs=S':=by exact iT):wpS cp lo (.sets l chk) Q S H:=cL h hc hS k
theorem rC{cp:FuncId→Option CF}{lo:Nat}{l:List (Nat×E)}{chk:List E}{Q:aS}{S:List Value}{H:Heap}{vs:List (Nat×Value)}{dst:Option Nat}{o:HOp}{a:E}{xs:List Value}(k:wpH cp lo o xs H fun v H'=>Q .normal (setD (setAll S vs) dst v) H')(h:evSets S H l=some vs:=by exact iT)(hc:evChk S H chk=true:=by simp(disch:=first|omega|(simp only[aK];omega))only[evB,lW,Nat.reduceAdd,Nat.reduceBEq, *])(ha:ev S H a=some xs:=by exact iT):wpS cp lo (.hv l chk [] dst o a) Q S H:=eC h hc ha k
theorem iC{cp:FuncId→Option CF}{lo:Nat}{l:List (Nat×E)}{chk:List E}{Q:aS}{S:List Value}{H:Heap}{vs:List (Nat×Value)}{dst:Option Nat}{o:HOp}{a:E}{xs:List Value}{S':List Value}{H':Heap}{v:Value}(hcall:o.isCall=false)(k:Q .normal S' H')(h:evSets S H l=some vs:=by exact iT)(hc:evChk S H chk=true:=by simp(disch:=first|omega|(simp only[aK];omega))only[evB,lW,Nat.reduceAdd,Nat.reduceBEq, *])(ha:ev S H a=some xs:=by exact iT)(ho:bG lo o xs H=some (v,H'):=by exact iT)(hS:setD (setAll S vs) dst v=S':=by exact iT):wpS cp lo (.hv l chk [] dst o a) Q S H:=eG hcall h hc ha ho hS k
theorem rB{cp:FuncId→Option CF}{lo:Nat}{c:E}{a b:Stm}{Q:aS}{S:List Value}{H:Heap}{t:Bool}(k1:t=true→wpS cp lo a Q S H)(k2:t=false→wpS cp lo b Q S H)(h:ev1 S H c=some (.bool t):=by exact iT):wpS cp lo (.cond c a b) Q S H:=cJ h k1 k2
theorem SX{cf:CF}{R:Value→Heap→Prop}{S:List Value}{H:Heap}{vs:List Value}(k:R (aJ vs) H)(h:evList S H cf.res=some vs:=by exact iT):aG cf R .ret S H:=bT h k
set_option maxHeartbeats 8000000 in
theorem Ht{lo:Nat}{H:Heap}{g:El f}{w:List (El f)}{r b d4 d5 d7:Nat}{er:Nat→Bool}{aw a8 a12:Option Addr}{cw c8 c12:Nat}{vx vi:Value}{R:Value→Heap→Prop}{S:List Value}(hS:∃(z:Nat→Value),S=[z 0,.slice aw w.length cw,z 2,.int .i64 (sC er w.length:Nat),.pointer (some ⟨d4,0,none⟩),.pointer (some ⟨d5,0,none⟩),z 6,.pointer (some ⟨d7,0,none⟩),.slice a8 r c8,z 9,z 10,z 11,.slice a12 (cF (plc g w.length) er w.length r (syS g r b w)).length c12,.int .i64 (Am (plc g w.length) er w.length r (syS g r b w):Nat),vx,vi,.int .i64 ((sel (isR (plc g w.length) er (cF (plc g w.length) er w.length r (syS g r b w))) w.length).length:Nat),z 17,z 18,z 19,z 20,z 21,z 22,z 23,z 24,z 25,z 26,z 27,z 28,z 29,z 30,z 31,z 32,z 33,z 34,z 35,z 36,z 37,z 38,z 39,z 40,z 41,z 42,z 43,z 44,z 45,z 46,z 47,z 48,z 49,z 50,z 51,z 52,z 53,z 54,z 55,z 56,z 57,z 58])(hlo:lo≤d5)(hg:Gn (OkC.ok (f:=f)) g)(hc:CdOK f r b)(hr1:r<w.length)(hr2:w.length<f.q)(hk:sC er w.length≤r)
  (hw:SlE H (.slice aw w.length cw) w) (g4:H.get d4=some (cdC f r b)) (g5:H.get d5=some [.slice none 0 0,.slice none 0 0]) (g7:H.get d7=some (fvC f)) (h8:SlE H (.slice a8 r c8) (eN g r b w)) (hvx:SlE H vx ((sel (an (plc g w.length) er (cF (plc g w.length) er w.length r (syS g r b w))) w.length).map (plc g w.length))) (hvi:Sl qQ H vi (sel (an (plc g w.length) er (cF (plc g w.length) er w.length r (syS g r b w))) w.length))
  (hR:∀v H',Keep d5 H H'→(¬ DecOK g r b w er→v=ny 17)→(DecOK g r b w er→RepOK g r b w er d5 v H')→R v H') :
  wpS cp lo (tl 10 ti) (aG rJ R) S H:=by
 obtain⟨z,rfl⟩:=hS
 have h2:=qle (f:=f)
 obtain⟨c1,c2,c3⟩:=hc
 have hX:=ej (eY hg) (cU hg) (n:=w.length) (by omega)
 have hreg:=fun h:DecOK g r b w er=>h.reg (eY hg) (cU hg) (by omega)
 have hfixP:=rq g r b w er
 have hchg:=xd g r b w er
 have hdok:sC er w.length≤r→2*((cF (plc g w.length) er w.length r (syS g r b w)).length-1)+sC er w.length≤r→(sel (isR (plc g w.length) er (cF (plc g w.length) er w.length r (syS g r b w))) w.length).length=(cF (plc g w.length) er w.length r (syS g r b w)).length-1→kL g r b (fD g r b w er)→DecOK g r b w er:=fun h1 h2 h3 h4=>⟨h1,h2,h3,h4⟩
 have hdno:DecOK g r b w er→2*((cF (plc g w.length) er w.length r (syS g r b w)).length-1)+sC er w.length≤r∧(sel (isR (plc g w.length) er (cF (plc g w.length) er w.length r (syS g r b w))) w.length).length=(cF (plc g w.length) er w.length r (syS g r b w)).length-1∧kL g r b (fD g r b w er):=fun h=>⟨h.cap,h.num,h.cw⟩
 have hlp:=tW (plc g w.length) er w.length r (syS g r b w)
 have hPn:=fA (an (plc g w.length) er (cF (plc g w.length) er w.length r (syS g r b w))) w.length
 have hPb:∀i ∈ sel (an (plc g w.length) er (cF (plc g w.length) er w.length r (syS g r b w))) w.length,i<w.length:=fun i hi=>(bg.1 hi).1
 have hPl:(sel (an (plc g w.length) er (cF (plc g w.length) er w.length r (syS g r b w))) w.length).length≤w.length:=fS _ _
 have hel:(sel (isR (plc g w.length) er (cF (plc g w.length) er w.length r (syS g r b w))) w.length).length≤w.length:=fS _ _
 have hll:(cF (plc g w.length) er w.length r (syS g r b w)).length≤r+1:=by
  have:=sH (fT (plc g w.length) er w.length r (syS g r b w))
  rw[gk]at this
  rw[GF]at this
  unfold cF
  omega
 have hcs:co (eN g r b w)=syS g r b w:=rfl
 have hsl:(eN g r b w).length=r:=aE _ _
 generalize sel (an (plc g w.length) er (cF (plc g w.length) er w.length r (syS g r b w))) w.length=P at *
 generalize (sel (isR (plc g w.length) er (cF (plc g w.length) er w.length r (syS g r b w))) w.length).length=e at *
 generalize (cF (plc g w.length) er w.length r (syS g r b w)).length=m at *
 generalize hLn:Am (plc g w.length) er w.length r (syS g r b w)=L at *
 clear hLn
 have hsk:=fS er w.length
 generalize sC er w.length=k at *
 have hl5:=Heap.get_lt g5
 unfold ti rJ
 simp only[tl,kB,aA]
 by_cases hgo:e=L∧e=m-1∧2*e+k≤r
 case neg=>
  have hno:¬ DecOK g r b w er:=fun h=>by
   have h1:=hdno h
   have h3:=hreg h
   exact hgo ⟨h3.symm,h1.2.1,by have:=h1.1;have:=h1.2.1;omega⟩
  have hgo':e≠L∨e≠m-1∨r<2*e+k:=by omega
  clear hdok hdno hreg hgo hfixP hchg
  refine rB (fun h=>?_) (fun h=>?_)
  case refine_2=>exfalso;simp at h;omega
  clear h
  (try simp only[aA])
  repeat' ((first|refine iN ?_|refine iC rfl ?_);(try simp only[aA]))
  refine SX ?_
  exact hR _ _ (dF (Ext.refl _) _ _) (fun _=>rfl) (fun h=>absurd h hno)
 case pos=>
  obtain⟨rfl,hem,hcap⟩:=hgo
  have hiff:DecOK g r b w er↔kL g r b (fD g r b w er):=⟨fun h=>(hdno h).2.2,fun h=>hdok hk (by omega) hem h⟩
  have hem':e≤m-1∧m-1≤e:=by omega
  clear hdok hdno hreg hem
  refine rB (fun h=>?_) (fun h=>?_)
  ·exfalso;simp at h;omega
  clear h
  (try simp only[aA])
  repeat' ((first|refine iN ?_|refine iC rfl ?_);(try simp only[aA]))
  generalize hG:H++_=G at *
  obtain⟨g19,hxG⟩:=aV hG
  clear hG
  have hl19:=Heap.get_lt g19
  rcases hw.mono hxG with ⟨-,h⟩|⟨xb,xo,xsp,xc,xs,ee,gx,hd1,hd2,hd3,hd4⟩
  ·rw[h]at hr1;simp at hr1
  cases ee
  (try simp only[aA])
  refine rC ?_
  refine dR (c:=elL w) (Own.nil (b:=G.length) (by omega)) (by omega) (by omega) (by omega) (by simp;omega) gx (by omega) (by rw[Nat.mul_one];exact hd1) (pI w) ?_
  rintro v4 H4 hown4 hk4 hl4
  have hx4:Ext G H4:=hk4.ext (Ext.refl _) (Nat.le_refl _)
  rw[List.nil_append]at hown4
  obtain⟨-,⟨-,h⟩|⟨m',hm',hml,rfl,gw⟩⟩:=hown4
  ·have:w.length=0:=by rw[←bM w,h];rfl
   omega
  have hmw:m'=w.length:=by rw[bM]at hml;omega
  subst hmw
  clear hml hd1 gx hk4
  have g19:=hx4.get g19
  have hx4:=hxG.trans hx4
  have hlw:=Heap.get_lt gw
  clear hxG
  (try simp only[aA])
  repeat' ((first|refine iN ?_|refine iC rfl ?_);(try simp only[aA]))
  generalize hG:H4.set H.length _=G4 at *
  have hx5:Ext H G4:=by rw[←hG];exact hx4.set (Nat.le_refl _)
  have g19:Heap.get G4 H.length=some [.slice (some ⟨G.length,0,some 1⟩) w.length w.length,.slice none 0 0]:=by rw[←hG,aI (by omega)]
  have gw:Heap.get G4 G.length=some (elL w):=by rw[←hG,aM (by omega)];exact gw
  have hl4':H4.length≤G4.length:=by rw[←hG];simp
  clear hG hx4
  have g7':=hx5.get g7
  have g4':=hx5.get g4
  refine rC ?_
  refine aC (LK (f:=f) (b:=b) (by omega) (h8.mono hx5) (by rw[hsl];omega) hX hPn hPb (hvx.mono hx5) (by omega) (by omega)) ?_
  rintro v20 H5 ⟨hx6,h20,hn20⟩
  rw[hsl,hcs]at h20
  generalize hE:nH (plc g w.length) b r (syS g r b w) P=E at *
  have g19:=(hx6).get g19;have gw:=(hx6).get gw
  have hx6':=hx5.trans hx6
  have hl5':=hx6.1
  clear g7' g4' hx5 hx6 hE
  have hml:(P.map E).length=P.length:=List.length_map _
  have h200:=h20
  obtain⟨a20,c20,rfl⟩:=h20.len
  rw[hml]at h200 hn20 ⊢
  obtain⟨ai,ci,rfl⟩:=hvi.len
  have hpz:=pO w P E
  (try simp only[aA])
  repeat' ((first|refine iN ?_|refine iC rfl ?_);(try simp only[aA]))
  refine aU (fun i S H'=>Keep2 H.length G.length H5 H'∧Heap.get H' G.length=some (elL (eR w P E i))∧(∃vc bc,H5.length≤bc∧Heap.get H' H.length=some [.slice (some ⟨G.length,0,some 1⟩) w.length w.length,vc]∧Own lo 1 H' vc bc (iU ((P.take i).filter fun j=>decide (E j≠0))))∧∃(z:Nat→Value),S=[z 0,.slice (some ⟨xb,xo,xsp⟩) w.length cw,z 2,z 3,.pointer (some ⟨d4,0,none⟩),.pointer (some ⟨d5,0,none⟩),z 6,.pointer (some ⟨d7,0,none⟩),z 8,z 9,z 10,z 11,z 12,z 13,z 14,.slice ai P.length ci,z 16,z 17,z 18,.pointer (some ⟨H.length,0,none⟩),.slice a20 P.length c20,.int .i64 (i:Nat),z 22,z 23,z 24,z 25,z 26,z 27,z 28,z 29,z 30,z 31,z 32,z 33,z 34,z 35,z 36,z 37,z 38,z 39,z 40,z 41,z 42,z 43,z 44,z 45,z 46,z 47,z 48,z 49,z 50,z 51,z 52,z 53,z 54,z 55,z 56,z 57,z 58]) P.length ?_ ?_ ?_ ?_
  ·exact⟨Keep2.refl _ _ _,by rw[hpz];exact gw,⟨_,H5.length,Nat.le_refl _,g19,Own.nil (by omega)⟩,aL rfl⟩
  ·rintro i S H' hi ⟨-,-,-,z,rfl⟩
   exact⟨_,iT,by simp⟩
  ·clear gw g19
   rintro i S H6 hi ⟨k6,gw,⟨vc,bc,hbc,g19,hown⟩,z,rfl⟩
   have hx7:=k6.toExt hx6' (Nat.le_refl _) (by omega)
   have hl6:=k6.len
   have g7':=hx7.get g7
   obtain⟨yb,yo,ysp,yc,ys,ee,gy,hat,hyl⟩:=E6 hvi (by omega)
   cases ee
   have hyb:=Heap.get_lt gy
   have gy:=hx7.get gy
   have hati:=hat i hi
   clear hat
   obtain⟨vb,vo,vsp,vcap,vs,ee,gv,hat,hvl⟩:=cK (Fu (n:=G4.length) h200 hn20 k6 (by omega) (by omega)) (by rw[hml];omega)
   rw[hml]at ee hat hvl
   cases ee
   have hatv:=hat i hi
   rw[yO hi]at hatv
   clear hat
   have hpm:=xE hi
   have hpl:=hPb _ hpm
   have hfn:=xI (ψ:=fun j=>decide (E j≠0)) hi
   have hfl:((P.take i).filter fun j=>decide (E j≠0)).length≤i:=Nat.le_trans (List.length_filter_le _ _) (by rw[List.length_take];omega)
   by_cases h0:E (P.getD i 0)=0
   ·rw[if_neg (by simpa using h0),List.append_nil]at hfn
    have hps:=zE (w:=w) hi h0
    rw[hfn,hps]
    rw[h0,jZ]at hatv
    clear hfn hps h0 hpm
    generalize P.getD i 0=p at *
    (try simp only[aA])
    repeat' ((first|refine iN ?_|refine iC rfl ?_);(try simp only[aA]))
    refine rB (fun h=>?_) (fun h=>?_)
    ·cases h
    clear h hatv
    (try simp only[aA])
    repeat' ((first|refine iN ?_|refine iC rfl ?_);(try simp only[aA]))
    exact⟨k6,gw,⟨vc,bc,hbc,g19,hown⟩,aL (by first|rfl|(simp only[Int.natCast_add,Int.natCast_one];rfl)|simp only[Int.natCast_add,Int.natCast_one])⟩
   ·rw[if_pos (by simpa using h0)]at hfn
    have hps:=rM (w:=w) (E:=E) hi
    have hfe:iU ((P.take (i+1)).filter fun j=>decide (E j≠0))=iU ((P.take i).filter fun j=>decide (E j≠0))++[.int .i64 ((P.getD i 0:Nat):Int)]:=by rw[hfn];simp[iU]
    have hne:=eH h0
    have hpw:=lK w P E i
    rw[hfe]
    clear hfn h0 hpm hfe
    generalize P.getD i 0=p at *
    generalize eR w P E (i+1)=W2 at *
    generalize eR w P E i=W1 at *
    generalize (P.take i).filter (fun j=>decide (E j≠0))=F at *
    obtain⟨zb,zo,zsp,zcap,zs,ee,gz,hat,hzl⟩:=cK (hw.mono hx7) (by omega)
    cases ee
    have hatw:=hat p hpl
    clear hat
    (try simp only[aA])
    repeat' ((first|refine iN ?_|refine iC rfl ?_);(try simp only[aA]))
    refine rB (fun h=>?_) (fun h=>?_)
    case refine_2=>exfalso;simp at h;omega
    clear h hne
    (try simp only[aA])
    refine rC ?_
    refine aQ (qV (f:=f) (co w p) (E p)) ?_
    rintro v H7 ⟨hx8,rfl⟩
    have gw:=(hx8).get gw;have g19:=(hx8).get g19;have gy:=(hx8).get gy
    have hown:=hown.mono hx8
    have k7:=k6.ext hx8
    have hl7:=hx8.1
    have hlw7:=Heap.get_lt gw
    generalize co w p-E p=q at *
    clear gv gz hatv hatw g7'
    (try simp only[aA])
    repeat' ((first|refine iN ?_|refine iC rfl ?_);(try simp only[aA]))
    generalize hG:H7.set G.length _=G7 at *
    have k8:Keep2 H.length G.length H5 G7:=by rw[←hG];exact k7.set2 _
    have hlG7:G7.length=H7.length:=by rw[←hG];simp
    have gw7:Heap.get G7 G.length=some (elL W2):=by rw[←hG,aI hlw7]
    have g19':Heap.get G7 H.length=some [.slice (some ⟨G.length,0,some 1⟩) w.length w.length,vc]:=by rw[←hG,aM (by omega)];exact g19
    have hown7:Own lo 1 G7 vc bc (iU F):=by rw[←hG];exact hown.keep (dF (Ext.refl _) _ _) (by omega)
    clear hG hown g19 gw hps gy
    obtain⟨a',k',rfl,hk',-⟩:=hown7.len (by omega)
    have hFl:F.length≤w.length:=by omega
    (try simp only[aA])
    repeat' ((first|refine iN ?_|refine iC rfl ?_);(try simp only[aA]))
    refine rC ?_
    refine dR (c:=[.int .i64 (p:Nat)]) (c':=[.int .i64 (p:Nat)]) (hown7.mono (Ext.app _ _)) (by simp;omega) (by omega) (by omega) (by rw[j0];omega) (by rw[←hlG7];exact aN) (by simp) rfl rfl ?_
    rintro v' H9 hown9 hk9 hl9
    have hE9:=Ext.app G7 [some [Value.int .i64 (p:Nat)]]
    simp only[List.length_append,List.length_cons,List.length_nil]at hown9 hl9
    have k9:=(k8.ext hE9).own hk9 (by omega)
    have g19:=hk9.get (hE9.get g19') (by omega)
    have gw9:=hk9.get (hE9.get gw7) (by omega)
    have hlb:=hown9.1
    obtain⟨a9,k9',rfl,hk9',-⟩:=hown9.len (by omega)
    (try simp only[aA])
    repeat' ((first|refine iN ?_|refine iC rfl ?_);(try simp only[aA]))
    refine⟨k9.set1 _,by rw[aM (by omega)];exact gw9,⟨_,G7.length+(0+1),by omega,by rw[aI (by omega)],hown9.keep (dF (Ext.refl _) _ _) (by omega)⟩,aL (by first|rfl|(simp only[Int.natCast_add,Int.natCast_one];rfl)|simp only[Int.natCast_add,Int.natCast_one])⟩
  ·clear gw g19
   rintro S H6 ⟨k6,gw,⟨vc,bc,hbc,g19,hown⟩,z,rfl⟩
   rw[List.take_length]at hown
   rw[hfixP]at gw
   rw[hchg]at hown
   have hx7:=k6.toExt hx6' (Nat.le_refl _) (by omega)
   have hvc:=Sl.ofOwn (enc:=qQ) hown
   have hnw:=NewV.own hown hbc
   have hfl:=fm g r b w er
   have hl6:=k6.len
   refine Iu (f:=f) (aL rfl) (by omega) hg (by omega) (by omega) (by omega) hfl gw (hx7.get g4) (hx7.get g5) g19 (by omega) (by obtain⟨a,c,h⟩:=hvc.len;exact⟨_,_,_,h⟩) ?_
   rintro v H7 k7 hy hn
   refine hR v H7 ⟨Nat.le_trans hx7.1 k7.len,fun j hj hne=>(k7.eq j (Nat.lt_of_lt_of_le hj hx7.1) hne).trans (hx7.2 j hj)⟩ (fun h=>hn fun h1=>h (hiff.2 h1)) (fun h=>⟨_,_,hy (hiff.1 h),?_,?_,NewV.mk (by omega)⟩)
   ·exact aY (sp:=some 1) (k7.get gw (by omega)) hfl
   ·exact dY hvc hnw k7 (by omega)
end
theorem lM{lo sz:Nat}{H:Heap}{v:Value}{b:Nat}{c:List Value}(h:Own lo sz H v b c)(n:Nat)(hn:lo≤n):∃b',Own lo sz H v b' c∧(b'=n∨b'=b∧b<H.length):=by
 obtain⟨h1,h2|⟨m,h2,h3,h4,h5⟩⟩:=h
 ·exact⟨n,⟨hn,.inl h2⟩,.inl rfl⟩
 ·exact⟨b,⟨h1,.inr ⟨m,h2,h3,h4,h5⟩⟩,.inr ⟨rfl,Heap.get_lt h5⟩⟩
section
variable {f:FD}[OkC f]
set_option maxHeartbeats 8000000 in
theorem Hl{lo:Nat}{H:Heap}{g:El f}{w:List (El f)}{r b d4 d5 d7 b9 bb bl:Nat}{er:Nat→Bool}{aw a8:Option Addr}{cw c8:Nat}{R:Value→Heap→Prop}{S:List Value}(hS:∃(z:Nat→Value),S=[z 0,.slice aw w.length cw,.slice (some ⟨bl,0,none⟩) w.length w.length,.int .i64 (sC er w.length:Nat),.pointer (some ⟨d4,0,none⟩),.pointer (some ⟨d5,0,none⟩),z 6,.pointer (some ⟨d7,0,none⟩),.slice a8 r c8,.slice (some ⟨b9,0,none⟩) w.length w.length,.slice (some ⟨bb,0,none⟩) (sC er w.length+1) (sC er w.length+1),z 11,z 12,z 13,z 14,z 15,z 16,z 17,z 18,z 19,z 20,z 21,z 22,z 23,z 24,z 25,z 26,z 27,z 28,z 29,z 30,z 31,z 32,z 33,z 34,z 35,z 36,z 37,z 38,z 39,z 40,z 41,z 42,z 43,z 44,z 45,z 46,z 47,z 48,z 49,z 50,z 51,z 52,z 53,z 54,z 55,z 56,z 57,z 58])(hlo:lo≤d5)(hg:Gn (OkC.ok (f:=f)) g)(hc:CdOK f r b)(hr1:r<w.length)(hr2:w.length<f.q)(hk:sC er w.length≤r)
  (hw:SlE H (.slice aw w.length cw) w) (g4:H.get d4=some (cdC f r b)) (g5:H.get d5=some [.slice none 0 0,.slice none 0 0]) (g7:H.get d7=some (fvC f)) (h8:SlE H (.slice a8 r c8) (eN g r b w)) (f9:H.get b9=some (elL (tab w.length (plc g w.length)))) (fb:H.get bb=some (elL (tab (sC er w.length+1) (gam (plc g w.length) er w.length)))) (hl:H.get bl=some (erL w.length er))
  (hR:∀v H',Keep d5 H H'→(¬ DecOK g r b w er→v=ny 17)→(DecOK g r b w er→RepOK g r b w er d5 v H')→R v H') :
  wpS cp lo (tl 6 ti) (aG rJ R) S H:=by
 obtain⟨z,rfl⟩:=hS
 have h2:=qle (f:=f)
 have hc0:=hc
 obtain⟨c1,c2,c3⟩:=hc
 have hX:=ej (eY hg) (cU hg) (n:=w.length) (by omega)
 have hl5:=Heap.get_lt g5
 have htl:=aE (sC er w.length+1) (gam (plc g w.length) er w.length)
 have hgm:=AS (plc g w.length) er w.length
 have hsl:(eN g r b w).length=r:=aE _ _
 have hcs:co (eN g r b w)=syS g r b w:=rfl
 have hga:=aY (sp:=none) fb htl
 have hsk:=fS er w.length
 unfold ti
 simp only[tl,kB,aA]
 refine rC ?_
 refine aQ (nX (f:=f) (Nat.le_refl _) h8 hga (by rw[hsl];omega) (by rw[htl];omega) r (by omega)) ?_
 rintro v H5 ⟨hx5,b35,hb35,rfl,f35⟩
 rw[hgm,hcs]at f35
 have hmin:min r ((eN g r b w).length+(tab (sC er w.length+1) (gam (plc g w.length) er w.length)).length-1)=r:=by rw[htl,hsl];omega
 rw[hmin]at f35 ⊢
 clear hmin hga htl hgm fb hsl hcs
 have hl5':=hx5.1
 have htail:=xO f35 (aE _ _) hk
 have htd:(tab r (cv (syS g r b w) (gam (plc g w.length) er w.length))).drop (sC er w.length)=fT (plc g w.length) er w.length r (syS g r b w):=rfl
 rw[htd]at htail
 have htll:=gk (plc g w.length) er w.length r (syS g r b w)
 clear htd f35
 (try simp only[aA])
 refine rC ?_
 refine aC (D7 (f:=f) (by exact(by omega:lo≤H5.length)) (by exact htail) (by rw[htll];omega)) ?_
 rintro v H2 ⟨hx2,vl,rfl,hvl⟩
 have hvl:SlE H2 vl (cF (plc g w.length) er w.length r (syS g r b w)):=hvl
 have hLn:(Reg.run (co (fT (plc g w.length) er w.length r (syS g r b w))) (fT (plc g w.length) er w.length r (syS g r b w)).length).L=Am (plc g w.length) er w.length r (syS g r b w):=rfl
 rw[hLn]
 clear hLn htail htll
 have hx2:=hx5.trans hx2
 have hl2:=hx2.1
 clear hx5 hl5'
 have hvl0:=hvl
 obtain⟨a12,c12,rfl⟩:=hvl.len
 clear hvl
 generalize hlam:cF (plc g w.length) er w.length r (syS g r b w)=lam at *
 have hlp:lam.length≤100000:=by
  have:=sH (fT (plc g w.length) er w.length r (syS g r b w))
  rw[gk,GF]at this
  have e:EZ (fT (plc g w.length) er w.length r (syS g r b w))=lam:=hlam
  rw[e]at this
  omega
 generalize hXe:plc g w.length=X at *
 have hXl:=aE w.length X
 (try simp only[aA])
 repeat' ((first|refine iN ?_|refine iC rfl ?_);(try simp only[aA]))
 refine aU (fun i S H'=>Ext H2 H'∧∃vx bx vi bi,H2.length≤bx∧H2.length≤bi∧bx≠bi∧Own lo 1 H' vx bx (elL ((sel (an X er lam) i).map X))∧Own lo 1 H' vi bi (iU (sel (an X er lam) i))∧∃(z:Nat→Value),S=[z 0,.slice aw w.length cw,.slice (some ⟨bl,0,none⟩) w.length w.length,.int .i64 (sC er w.length:Nat),.pointer (some ⟨d4,0,none⟩),.pointer (some ⟨d5,0,none⟩),z 6,.pointer (some ⟨d7,0,none⟩),.slice a8 r c8,.slice (some ⟨b9,0,none⟩) w.length w.length,z 10,z 11,.slice a12 lam.length c12,.int .i64 (Am X er w.length r (syS g r b w):Nat),vx,vi,.int .i64 ((sel (isR X er lam) i).length:Nat),.int .i64 (i:Nat),z 18,z 19,z 20,z 21,z 22,z 23,z 24,z 25,z 26,z 27,z 28,z 29,z 30,z 31,z 32,z 33,z 34,z 35,z 36,z 37,z 38,z 39,z 40,z 41,z 42,z 43,z 44,z 45,z 46,z 47,z 48,z 49,z 50,z 51,z 52,z 53,z 54,z 55,z 56,z 57,z 58]) w.length ?_ ?_ ?_ ?_
 ·exact⟨Ext.refl _,_,H2.length,_,H2.length+1,Nat.le_refl _,by omega,by omega,Own.nil (by omega),Own.nil (by omega),aL rfl⟩
 ·rintro i S H' hi ⟨-,vx,bx,vi,bi,-,-,-,-,-,z,rfl⟩
  exact⟨_,iT,by simp⟩
 ·rintro i S H3 hi ⟨hx3,vx,bx,vi,bi,hbx,hbi,hbne,hox,hoi,z,rfl⟩
  have hx3':=hx2.trans hx3
  have hl3:=hx3.1
  have f9:=hx2.get f9
  have gl:=hx3'.get hl
  have g7':=hx3'.get g7
  have f9':=hx3.get f9
  have hXi:(tab w.length X).getD i 0=X i:=de hi
  have hsb:=bK (an X er lam) i
  have hsr:=bK (isR X er lam) i
  have hs3:(sel (an X er lam) i).length≤i:=fS _ i
  have hs4:(sel (isR X er lam) i).length≤i:=fS _ i
  have hbe:an X er lam i=(er i || isR X er lam i):=rfl
  have hre:isR X er lam i=(!er i&&decide (hor lam (inv (X i))=0)):=rfl
  have hXne:=hX.ne i hi
  cases hek:er i with
  | true=>
   rw[hek]at hbe hre
   rw[hre]at hsr
   rw[if_neg (by simp),List.append_nil]at hsr
   rw[hbe]at hsb
   rw[if_pos (by simp)]at hsb
   rw[hsr]
   clear hbe hre hsr hXne
   (try simp only[aA])
   refine au (t:=false) (iT) (by simp(disch:=first|omega|(simp only[aK];omega))only[evB,lW,Nat.reduceAdd,Nat.reduceBEq, *]) (by simp(disch:=first|omega|(simp only[aK];omega))only[evB,lW,Nat.reduceAdd,Nat.reduceBEq, *];try rfl) (fun h=>by cases h) (fun _=>?_)
   (try simp only[aA])
   refine au (t:=false) (iT) (by simp(disch:=first|omega|(simp only[aK];omega))only[evB,lW,Nat.reduceAdd,Nat.reduceBEq, *]) (by simp(disch:=first|omega|(simp only[aK];omega))only[evB,lW,Nat.reduceAdd,Nat.reduceBEq, *];try rfl) (fun h=>by cases h) (fun _=>?_)
   (try simp only[aA])
   repeat' ((first|refine iN ?_|refine iC rfl ?_);(try simp only[aA]))
   refine rB (fun h=>?_) (fun h=>?_)
   ·cases h
   clear h
   (try simp only[aA])
   refine rB (fun h=>?_) (fun h=>?_)
   case refine_2=>cases h
   clear h hek gl g7'
   obtain⟨bx',hox,hbx'⟩:=lM hox (H3.length+200) (by omega)
   obtain⟨bi',hoi,hbi'⟩:=lM hoi (H3.length+100) (by omega)
   (try simp only[aA])
   repeat' ((first|refine iN ?_|refine iC rfl ?_);(try simp only[aA]))
   refine rC ?_
   refine dR (c:=[.int .i64 ((X i).val:Nat)]) (hox.mono (Ext.app _ _)) (by simp;omega) (by omega) (by omega) (by rw[bM,List.length_map];omega) aN (by simp) rfl rfl ?_
   rintro vx' H6 hox6 hk6 hl6
   have hE6:=Ext.app H3 [some [Value.int .i64 ((X i).val:Nat)]]
   simp only[List.length_append,List.length_cons,List.length_nil]at hox6 hl6
   replace hl6:H6.length≤H3.length+2∧H3.length+2≤H6.length:=by omega
   have hx6:=hk6.ext (hx3.trans hE6) (by omega)
   have hoi6:=(hoi.mono hE6).keep hk6 (by omega)
   have f9':=hx6.get f9
   clear hox hoi
   (try simp only[aA])
   repeat' ((first|refine iN ?_|refine iC rfl ?_);(try simp only[aA]))
   refine rC ?_
   refine dR (c:=[.int .i64 (i:Nat)]) (hoi6.mono (Ext.app _ _)) (by simp;omega) (by omega) (by omega) (by rw[j0];omega) aN (by simp) rfl rfl ?_
   rintro vi' H7 hoi7 hk7 hl7
   have hE7:=Ext.app H6 [some [Value.int .i64 (i:Nat)]]
   simp only[List.length_append,List.length_cons,List.length_nil]at hoi7 hl7
   replace hl7:H7.length≤H6.length+2∧H6.length+2≤H7.length:=by omega
   have hox7:=(hox6.mono hE7).keep hk7 (by omega)
   (try simp only[aA])
   repeat' ((first|refine iN ?_|refine iC rfl ?_);(try simp only[aA]))
   refine⟨hk7.ext (hx6.trans hE7) (by omega),vx',H3.length+(0+1),vi',H6.length+(0+1),by omega,by omega,by omega,?_,?_,aL (by first|rfl|(simp only[Int.natCast_add,Int.natCast_one];rfl)|simp only[Int.natCast_add,Int.natCast_one])⟩
   ·rw[hsb,List.map_append,List.map_cons,List.map_nil,k0];exact hox7
   ·rw[hsb];simp only[iU,List.map_append,List.map_cons,List.map_nil];exact hoi7
  | false=>
   rw[hek]at hbe hre
   have hva:=(hvl0.mono hx3)
   by_cases h0:hor lam (inv (X i))=0
   ·have hr1':isR X er lam i=true:=by rw[hre,h0];simp
    rw[hr1']at hbe hsr
    rw[hbe]at hsb
    rw[if_pos (by simp)]at hsb hsr
    have hrl:=congrArg List.length hsr
    rw[List.length_append,List.length_singleton]at hrl
    clear hsr hbe hre hr1'
    generalize hq1:(sel (isR X er lam) (i+1)).length=q1 at *
    subst hrl
    clear hq1
    generalize (sel (isR X er lam) i).length=q0 at *
    (try simp only[aA])
    refine au (t:=true) (iT) (by simp(disch:=first|omega|(simp only[aK];omega))only[evB,lW,Nat.reduceAdd,Nat.reduceBEq, *]) (by simp(disch:=first|omega|(simp only[aK];omega))only[evB,lW,Nat.reduceAdd,Nat.reduceBEq, *];try rfl) (fun _=>⟨_,iT,?_⟩) (fun h=>by cases h)
    refine aQ (kg (f:=f) (X i) hXne) ?_
    rintro v H4 ⟨hx4,rfl⟩
    have hl4:=hx4.1
    (try simp only[aA])
    refine au (t:=true) (iT) (by simp(disch:=first|omega|(simp only[aK];omega))only[evB,lW,Nat.reduceAdd,Nat.reduceBEq, *]) (by simp(disch:=first|omega|(simp only[aK];omega))only[evB,lW,Nat.reduceAdd,Nat.reduceBEq, *];try rfl) (fun _=>⟨_,iT,?_⟩) (fun h=>by cases h)
    refine aC (Eg (f:=f) (by exact(by omega:lo≤H4.length)) (hva.mono hx4) (by omega) (inv (X i))) ?_
    rintro v H5 ⟨hx5,rfl⟩
    rw[h0,jZ]
    have hx5:=hx4.trans hx5
    have hox:=hox.mono hx5
    have hoi:=hoi.mono hx5
    have f9':=hx5.get f9'
    have gl:=hx5.get gl
    have hx5:=hx3.trans hx5
    have hl5':=hx5.1
    clear hx4 h0 g7'
    (try simp only[aA])
    repeat' ((first|refine iN ?_|refine iC rfl ?_);(try simp only[aA]))
    refine rB (fun h=>?_) (fun h=>?_)
    case refine_2=>exfalso;simp at h
    clear h
    (try simp only[aA])
    repeat' ((first|refine iN ?_|refine iC rfl ?_);(try simp only[aA]))
    refine rB (fun h=>?_) (fun h=>?_)
    case refine_2=>exfalso;simp at h
    clear h hek gl
    obtain⟨bx',hox,hbx'⟩:=lM hox (H5.length+200) (by omega)
    obtain⟨bi',hoi,hbi'⟩:=lM hoi (H5.length+100) (by omega)
    (try simp only[aA])
    repeat' ((first|refine iN ?_|refine iC rfl ?_);(try simp only[aA]))
    refine rC ?_
    refine dR (c:=[.int .i64 ((X i).val:Nat)]) (hox.mono (Ext.app _ _)) (by simp;omega) (by omega) (by omega) (by rw[bM,List.length_map];omega) aN (by simp) rfl rfl ?_
    rintro vx' H6 hox6 hk6 hl6
    have hE6:=Ext.app H5 [some [Value.int .i64 ((X i).val:Nat)]]
    simp only[List.length_append,List.length_cons,List.length_nil]at hox6 hl6
    replace hl6:H6.length≤H5.length+2∧H5.length+2≤H6.length:=by omega
    have hx6:=hk6.ext (hx5.trans hE6) (by omega)
    have hoi6:=(hoi.mono hE6).keep hk6 (by omega)
    have f9':=hx6.get f9
    clear hox hoi
    (try simp only[aA])
    repeat' ((first|refine iN ?_|refine iC rfl ?_);(try simp only[aA]))
    refine rC ?_
    refine dR (c:=[.int .i64 (i:Nat)]) (hoi6.mono (Ext.app _ _)) (by simp;omega) (by omega) (by omega) (by rw[j0];omega) aN (by simp) rfl rfl ?_
    rintro vi' H7 hoi7 hk7 hl7
    have hE7:=Ext.app H6 [some [Value.int .i64 (i:Nat)]]
    simp only[List.length_append,List.length_cons,List.length_nil]at hoi7 hl7
    replace hl7:H7.length≤H6.length+2∧H6.length+2≤H7.length:=by omega
    have hox7:=(hox6.mono hE7).keep hk7 (by omega)
    (try simp only[aA])
    repeat' ((first|refine iN ?_|refine iC rfl ?_);(try simp only[aA]))
    refine⟨hk7.ext (hx6.trans hE7) (by omega),vx',H5.length+(0+1),vi',H6.length+(0+1),by omega,by omega,by omega,?_,?_,aL (by first|rfl|(simp only[Int.natCast_add,Int.natCast_one];rfl)|simp only[Int.natCast_add,Int.natCast_one])⟩
    ·rw[hsb,List.map_append,List.map_cons,List.map_nil,k0];exact hox7
    ·rw[hsb];simp only[iU,List.map_append,List.map_cons,List.map_nil];exact hoi7
   ·have hr1':isR X er lam i=false:=by rw[hre];simp[h0]
    rw[hr1']at hbe hsr
    rw[hbe]at hsb
    rw[if_neg (by simp),List.append_nil]at hsb hsr
    rw[hsb,hsr]
    have hne:=eH h0
    clear hsr hbe hre hr1' hsb h0
    (try simp only[aA])
    refine au (t:=true) (iT) (by simp(disch:=first|omega|(simp only[aK];omega))only[evB,lW,Nat.reduceAdd,Nat.reduceBEq, *]) (by simp(disch:=first|omega|(simp only[aK];omega))only[evB,lW,Nat.reduceAdd,Nat.reduceBEq, *];try rfl) (fun _=>⟨_,iT,?_⟩) (fun h=>by cases h)
    refine aQ (kg (f:=f) (X i) hXne) ?_
    rintro v H4 ⟨hx4,rfl⟩
    have hl4:=hx4.1
    (try simp only[aA])
    refine au (t:=true) (iT) (by simp(disch:=first|omega|(simp only[aK];omega))only[evB,lW,Nat.reduceAdd,Nat.reduceBEq, *]) (by simp(disch:=first|omega|(simp only[aK];omega))only[evB,lW,Nat.reduceAdd,Nat.reduceBEq, *];try rfl) (fun _=>⟨_,iT,?_⟩) (fun h=>by cases h)
    refine aC (Eg (f:=f) (by exact(by omega:lo≤H4.length)) (hva.mono hx4) (by omega) (inv (X i))) ?_
    rintro v H5 ⟨hx5,rfl⟩
    generalize (hor lam (inv (X i))).val=q at *
    have hx5:=hx4.trans hx5
    have hox:=hox.mono hx5
    have hoi:=hoi.mono hx5
    have gl:=hx5.get gl
    have hx5:=hx3.trans hx5
    clear hx4 g7'
    (try simp only[aA])
    repeat' ((first|refine iN ?_|refine iC rfl ?_);(try simp only[aA]))
    refine rB (fun h=>?_) (fun h=>?_)
    ·exfalso;simp at h;omega
    clear h
    (try simp only[aA])
    repeat' ((first|refine iN ?_|refine iC rfl ?_);(try simp only[aA]))
    refine rB (fun h=>?_) (fun h=>?_)
    ·exfalso;simp at h;omega
    clear h hek gl
    (try simp only[aA])
    repeat' ((first|refine iN ?_|refine iC rfl ?_);(try simp only[aA]))
    exact⟨hx5,vx,bx,vi,bi,hbx,hbi,hbne,hox,hoi,aL (by first|rfl|(simp only[Int.natCast_add,Int.natCast_one];rfl)|simp only[Int.natCast_add,Int.natCast_one])⟩
 ·rintro S H3 ⟨hx3,vx,bx,vi,bi,hbx,hbi,hbne,hox,hoi,z,rfl⟩
  have hx3:=hx2.trans hx3
  subst hXe
  subst hlam
  refine Ht (f:=f) (aL rfl) hlo hg hc0 hr1 hr2 hk (hw.mono hx3) (hx3.get g4) (hx3.get g5) (hx3.get g7) (h8.mono hx3) (Sl.ofOwn hox) (Sl.ofOwn (enc:=qQ) hoi) ?_
  intro v H' k h1 h3
  exact hR v H' ⟨Nat.le_trans hx3.1 k.len,fun j hj hne=>(k.eq j (Nat.lt_of_lt_of_le hj hx3.1) hne).trans (hx3.2 j hj)⟩ h1 h3
end
section
variable {f:FD}[OkC f]
set_option maxHeartbeats 8000000 in
theorem Hp{lo:Nat}{H:Heap}{g:El f}{v:Value}{w:List (El f)}{r b bl:Nat}{er:Nat→Bool}(hlo:lo≤H.length)(hg:Gn (OkC.ok (f:=f)) g)(hc:CdOK f r b)(hw:SlE H v w)(hr1:r<w.length)(hr2:w.length<f.q)(hl:H.get bl=some (erL w.length er))(hk:sC er w.length≤r) :
  Ev cp lo 74 [cdV f r b,v,.slice (some ⟨bl,0,none⟩) w.length w.length,.int .i64 (sC er w.length:Nat)] H (fun v H'=>Ext H H'∧(¬ DecOK g r b w er→v=ny 17)∧(DecOK g r b w er→RepOK g r b w er H.length v H')):=by
 have h2:=qle (f:=f)
 have hc0:=hc
 obtain⟨c1,c2,c3⟩:=hc
 have hpl:=ej (eY hg) (cU hg) (n:=w.length) (by omega)
 have hw0:=hw
 obtain⟨aw,cw,rfl⟩:=hw.len
 have hbl:=Heap.get_lt hl
 unfold cdV
 refine Tw ?_;unfold ti rJ;simp only[kB,aA]
 repeat' ((first|refine dD ?_|refine dB rfl ?_);(try simp only[aA]))
 generalize hG:H++_=G at *
 obtain⟨g0,hxG⟩:=aV hG
 have g1:G.get (H.length+1)=some [Value.slice none 0 0,Value.slice none 0 0]:=by rw[←hG,az];rfl
 have g2:G.get (H.length+1+1)=some [Value.int .i64 (FD.ch f:Nat),Value.int .i64 (f.q:Nat),Value.int .i64 (f.poly:Nat)]:=by rw[←hG,show H.length+1+1=H.length+2 by rfl,az];rfl
 clear hG
 have hlG:=Heap.get_lt g2
 refine iS ?_
 refine aC (qj (f:=f) (by omega) hg (hw0.mono hxG) (by omega) r b (by omega) (by omega)) ?_
 rintro v8 H1 ⟨hx1,hv8⟩
 have g0:=(hx1).get g0;have g1:=(hx1).get g1;have g2:=(hx1).get g2
 have hx1:=hxG.trans hx1
 have hl1:=hx1.1
 have hsl:(eN g r b w).length=r:=aE _ _
 have hcs:co (eN g r b w)=syS g r b w:=rfl
 (try simp only[aA])
 repeat' ((first|refine dD ?_|refine dB rfl ?_);(try simp only[aA]))
 refine iS ?_
 refine aC (I7 (f:=f) (g:=g) (n:=w.length) (by omega) hg (by omega)) ?_
 rintro v H2 ⟨hx2,b9,hb9,rfl,f9⟩
 have g0:=(hx2).get g0;have g1:=(hx2).get g1;have g2:=(hx2).get g2
 have hv8:=hv8.mono hx2
 have hx2:=hx1.trans hx2
 have hl2:=hx2.1
 clear hx1 hl1
 have hl9:=Heap.get_lt f9
 have hv80:=hv8
 obtain⟨a8,c8,rfl⟩:=hv8.len
 rw[hsl]at hv80 ⊢
 generalize hX:plc g w.length=X at *
 have hXl:=aE w.length X
 (try simp only[aA])
 repeat' ((first|refine dD ?_|refine dB rfl ?_);(try simp only[aA]))
 have hz:[Value.int .i64 1]=elL (tab (sC er 0+1) (gam X er 0)):=rfl
 rw[hz]
 generalize hG:H2++_=G3 at *
 obtain⟨g10,hx3⟩:=aV hG
 clear hG hz
 have g0:=(hx3).get g0;have g1:=(hx3).get g1;have g2:=(hx3).get g2;have f9:=(hx3).get f9
 have hv80:=hv80.mono hx3
 have hx3:=hx2.trans hx3
 have hl3:=hx3.1
 clear hx2
 (try simp only[aA])
 repeat' ((first|refine dD ?_|refine dB rfl ?_);(try simp only[aA]))
 refine aU (fun i S H'=>Ext G3 H'∧∃bb,H'.get bb=some (elL (tab (sC er i+1) (gam X er i)))∧∃(z:Nat→Value),S=[z 0,.slice aw w.length cw,.slice (some ⟨bl,0,none⟩) w.length w.length,.int .i64 (sC er w.length:Nat),.pointer (some ⟨H.length,0,none⟩),.pointer (some ⟨H.length+1,0,none⟩),.int .i64 0,.pointer (some ⟨H.length+1+1,0,none⟩),.slice a8 r c8,.slice (some ⟨b9,0,none⟩) w.length w.length,.slice (some ⟨bb,0,none⟩) (sC er i+1) (sC er i+1),.int .i64 (i:Nat),z 12,z 13,z 14,z 15,z 16,z 17,z 18,z 19,z 20,z 21,z 22,z 23,z 24,z 25,z 26,z 27,z 28,z 29,z 30,z 31,z 32,z 33,z 34,z 35,z 36,z 37,z 38,z 39,z 40,z 41,z 42,z 43,z 44,z 45,z 46,z 47,z 48,z 49,z 50,z 51,z 52,z 53,z 54,z 55,z 56,z 57,z 58]) w.length ?_ ?_ ?_ ?_
 ·exact⟨Ext.refl _,_,g10,aL rfl⟩
 ·rintro i S H' hi ⟨hx,bb,fb,z,rfl⟩
  exact⟨_,gu,by simp⟩
 ·clear g10
  rintro i S H4 hi ⟨hx4,bb,fb,z,rfl⟩
  have hl4:=hx4.1
  have g0:=(hx4).get g0;have g1:=(hx4).get g1;have g2:=(hx4).get g2;have f9:=(hx4).get f9
  have hlt:=(hx3.trans hx4).get hl
  have hsu:=iW er i
  have hgs:gam X er (i+1)=if er i=true then cv (lin (X i)) (gam X er i) else gam X er i:=rfl
  have hsle:=fS er i
  (try simp only[aA])
  repeat' ((first|refine dD ?_|refine dB rfl ?_);(try simp only[aA]))
  cases hek:er i with
  | false=>
   rw[hek,if_neg (by simp)]at hsu hgs
   rw[hsu,hgs,Nat.add_zero]
   clear hsu hgs
   refine m9 (fun h=>?_) (fun h=>?_)
   ·cases h
   clear h hek
   (try simp only[aA])
   repeat' ((first|refine dD ?_|refine dB rfl ?_);(try simp only[aA]))
   exact⟨hx4,bb,fb,aL (by first|rfl|(simp only[Int.natCast_add,Int.natCast_one];rfl)|simp only[Int.natCast_add,Int.natCast_one])⟩
  | true=>
   rw[hek,if_pos rfl]at hsu hgs
   rw[hsu]
   have hXi:(tab w.length X).getD i 0=X i:=de hi
   have hnx:cv (co (tab (sC er i+1) (gam X er i))) (co [1,-X i])=gam X er (i+1):=by rw[AS,DR,hgs,cX]
   have htl:=aE (sC er i+1) (gam X er i)
   generalize sC er i=q at *
   have hi1:(((q+1:Nat):Int)+1)=((q+2:Nat):Int):=by omega
   generalize tab (q+1) (gam X er i)=A at *
   clear hsu hgs
   generalize gam X er (i+1)=L2 at *
   refine m9 (fun h=>?_) (fun h=>?_)
   case refine_2=>cases h
   clear h hek
   (try simp only[aA])
   refine iS ?_
   refine aQ (qV (0:El f) (X i)) ?_
   rintro v H5 ⟨hx5,rfl⟩
   rw[mm]
   have fb:=hx5.get fb
   have hx5:=hx4.trans hx5
   have hl5:=hx5.1
   generalize X i=x at *
   clear g0 g1 g2
   (try simp only[aA])
   repeat' ((first|refine dD ?_|refine dB rfl ?_);(try simp only[aA]))
   refine iS ?_
   have hs1:=aY (sp:=none) fb htl
   have hs2:SlE (H5++[some [Value.int .i64 1,Value.int .i64 ((-x).val:Nat)]]) (.slice (some ⟨H5.length,0,none⟩) 2 2) [(1:El f),-x]:=aY (l:=[(1:El f),-x]) aN rfl
   refine aC (nX (by simp;omega) (hs1.mono (Ext.app _ _)) hs2 (by rw[htl];omega) (by simp) (q+2) (by omega)) ?_
   rintro v H6 ⟨hx6,b4,hb4,rfl,f4⟩
   have hmin:min (q+2) (A.length+[(1:El f),-x].length-1)=q+2:=by rw[htl];simp
   rw[hmin]at f4 ⊢
   rw[hnx]at f4
   have hx6:=hx5.trans hx6.of_app
   clear hi1
   (try simp only[aA])
   repeat' ((first|refine dD ?_|refine dB rfl ?_);(try simp only[aA]))
   exact⟨hx6,b4,f4,aL (by first|rfl|(simp only[Int.natCast_add,Int.natCast_one];rfl)|simp only[Int.natCast_add,Int.natCast_one])⟩
 ·rintro S H4 ⟨hx4,bb,fb,z,rfl⟩
  have hx34:=hx3.trans hx4
  subst hX
  refine Hl (f:=f) (g:=g) (aL rfl) (by omega) hg hc0 hr1 hr2 hk (hw0.mono hx34) (hx4.get g0) (hx4.get g1) (hx4.get g2) (hv80.mono hx4) (hx4.get f9) fb (hx34.get hl) ?_
  intro v H' k h1 h3
  exact⟨(Keep.ext k hx34 (by omega)),h1,fun h=>(h3 h).le (by omega)⟩
end
section
variable {ch sz po r b:Int}{v ve:Value}{l:List Int}{lo:Nat}{H:Heap}
end
theorem wv{α:Type}{enc:α→Value}(henc:∀x,enc x≠.slice none 0 0){H:Heap}{v:Value}{l:List α}{d:Nat}{x y:Value}(h:Sl enc H v l)(hd:H.get d=some [.slice none 0 0,.slice none 0 0]):Sl enc (H.set d (some [x,y])) v l:=by
 rcases h with h|⟨b,o,sp,cap,xs,h1,h2,h3,h4,h5⟩
 ·exact .inl h
 ·by_cases e:b=d
  ·subst e
   have:xs=[.slice none 0 0,.slice none 0 0]:=by rw[h2]at hd;exact Option.some.inj hd
   subst this
   cases l with
   | nil=>exact .inr ⟨b,o,sp,cap,_,h1,aI (Heap.get_lt h2),by simp,by simpa using h4,h5⟩
   | cons a l=>
    exfalso
    have h6:(([.slice none 0 0,.slice none 0 0]:List Value).drop o)[0]?=some (enc a):=by
     have:=congrArg (·[0]?) h3
     simpa[List.getElem?_take]using this
    rw[List.getElem?_drop]at h6
    match o,h6 with
    | 0,h6=>simp at h6;exact henc a h6.symm
    | 1,h6=>simp at h6;exact henc a h6.symm
    | o+2,h6=>simp at h6
  ·exact .inr ⟨b,o,sp,cap,xs,h1,by rw[aM (fun h=>e h.symm)];exact h2,h3,h4,h5⟩
section
variable {f:FD}[OkC f]
set_option maxHeartbeats 4000000 in
theorem If{lo:Nat}{H:Heap}{g:El f}{v ve:Value}{w:List (El f)}{e:List Int}{r b:Nat}(hlo:lo≤H.length)(hg:Gn (OkC.ok (f:=f)) g)(hc:CdOK f r b)(hw:SlE H v w)(hwl:w.length≤10000000)(he:SlI H ve e)(hel:e.length≤10000000) :
  Ev cp lo 37 [cdV f r b,v,ve] H (fun v H'=>Ext H H'∧(¬ inR w.length e→v=ny 1)∧(inR w.length e→¬ (r<w.length∧w.length<f.q)→v=ny 7)∧(inR w.length e→r<w.length→w.length<f.q→¬ DecOK g r b w (erI e)→v=ny 17)
   ∧ (inR w.length e→r<w.length→w.length<f.q→DecOK g r b w (erI e)→RepOK g r b w (erI e) H.length v H')):=by
 have h2:=qle (f:=f)
 have hw0:=hw
 have he0:=he
 have hok:=pB hc
 have hc0:=hc
 obtain⟨c1,c2,c3⟩:=hc
 obtain⟨aw,cw,rfl⟩:=hw.len
 obtain⟨ae,ce,rfl⟩:=he.len
 unfold cdV
 refine Uu ?_;unfold Le EU;simp only[kB,aA]
 repeat' ((first|refine dD ?_|refine dB rfl ?_);(try simp only[aA]))
 refine iS ?_
 refine aC (DX (ch:=FD.ch f) (sz:=f.q) (po:=f.poly) (r:=r) (b:=b) (by omega)) ?_
 rintro v H1 ⟨hx1,t,rfl,ht⟩
 have g0:H1.get H.length=some _:=hx1.get (gu)
 have g1:H1.get (H.length+1)=some _:=hx1.get (gu)
 have hx1:=hx1.of_app
 have htt:t=true:=ht.2 hok
 subst htt
 clear ht
 have hin:=gq w
 (try simp only[aA])
 refine au (t:=true) (gu) (by simp(disch:=first|omega|(simp only[aK];omega))only[evB,BQ,Nat.reduceAdd,Nat.reduceBEq, *]) (by simp(disch:=first|omega|(simp only[aK];omega))only[evB,BQ,Nat.reduceAdd,Nat.reduceBEq, *];try rfl) (fun _=>⟨_,gu,?_⟩) (fun h=>by cases h)
 refine aC (Br (ch:=FD.ch f) (sz:=f.q) (po:=f.poly) (lN (hw0.mono hx1)) (by rw[fO];omega)) ?_
 rintro v H2 ⟨hx2,rfl⟩
 rw[hin]
 clear hin
 have g0:=(hx2).get g0;have g1:=(hx2).get g1
 have hx2:=hx1.trans hx2
 have hl2:=Heap.get_lt g1
 clear hx1
 (try simp only[aA])
 refine m9 (fun h=>?_) (fun h=>?_)
 ·cases h
 clear h
 (try simp only[aA])
 repeat' ((first|refine dD ?_|refine dB rfl ?_);(try simp only[aA]))
 refine aU (fun i S H'=>H2=H'∧inR w.length (e.take i)∧∃(z:Nat→Value),S=[z 0,.slice aw w.length cw,.slice ae e.length ce,.pointer (some ⟨H.length,0,none⟩),.pointer (some ⟨H.length+1,0,none⟩),z 5,.int .i64 (i:Nat),z 7,z 8,z 9,z 10,z 11,z 12,z 13,z 14]) e.length ?_ ?_ ?_ ?_
 ·exact⟨rfl,by simp[inR],aL rfl⟩
 ·rintro i S H' hi ⟨rfl,-,z,rfl⟩
  exact⟨_,gu,by simp⟩
 ·rintro i S H' hi ⟨rfl,hin,z,rfl⟩
  obtain⟨xb,xo,xsp,xc,xs,ee,gx,hat,hxl⟩:=(he0.mono hx2).els 0 (by omega)
  cases ee
  have hati:=hat i hi
  have hm:e.getD i 0 ∈ e:=by rw[List.getD_eq_getElem?_getD,List.getElem?_eq_getElem hi];exact List.getElem_mem hi
  have hts:e.take (i+1)=e.take i++[e.getD i 0]:=by rw[List.take_add_one,List.getElem?_eq_getElem hi,List.getD_eq_getElem?_getD,List.getElem?_eq_getElem hi];rfl
  clear hat
  generalize e.getD i 0=x at *
  (try simp only[aA])
  repeat' ((first|refine dD ?_|refine dB rfl ?_);(try simp only[aA]))
  refine m9 (fun h=>?_) (fun h=>?_)
  ·have hno:¬ inR w.length e:=fun h3=>by have:=h3 _ hm;simp at h;omega
   clear h
   (try simp only[aA])
   repeat' ((first|refine dD ?_|refine dB rfl ?_);(try simp only[aA]))
   refine rE ?_
   exact⟨hx2.set (by omega),fun _=>rfl,fun h=>absurd h hno,fun h=>absurd h hno,fun h=>absurd h hno⟩
  ·have hx:0≤x∧x<w.length:=by simp at h;omega
   clear h
   (try simp only[aA])
   repeat' ((first|refine dD ?_|refine dB rfl ?_);(try simp only[aA]))
   refine⟨by trivial,?_,aL (by first|rfl|(simp only[Int.natCast_add,Int.natCast_one];rfl)|simp only[Int.natCast_add,Int.natCast_one])⟩
   intro y hy
   rw[hts]at hy
   rcases List.mem_append.1 hy with h|h
   ·exact hin y h
   ·rw[List.mem_singleton.1 h];exact hx
 ·rintro S H' ⟨rfl,hin,z,rfl⟩
  rw[List.take_length]at hin
  by_cases hlong:r<w.length∧w.length<f.q
  case neg=>
   (try simp only[aA])
   refine m9 (fun h=>?_) (fun h=>?_)
   case refine_2=>exfalso;simp at h;omega
   clear h
   (try simp only[aA])
   repeat' ((first|refine dD ?_|refine dB rfl ?_);(try simp only[aA]))
   refine rE ?_
   exact⟨hx2.set (by omega),fun h=>absurd hin h,fun _ _=>rfl,fun _ h1 h2=>absurd ⟨h1,h2⟩ hlong,fun _ h1 h2=>absurd ⟨h1,h2⟩ hlong⟩
  case pos=>
   (try simp only[aA])
   refine m9 (fun h=>?_) (fun h=>?_)
   ·exfalso;simp at h;omega
   clear h
   (try simp only[aA])
   refine iS ?_
   refine aC (MS (by omega) (by omega) (he0.mono hx2) (by omega) hin) ?_
   rintro v H3 ⟨hx3,bm,hbm,rfl,gm⟩
   have g0:=(hx3).get g0;have g1:=(hx3).get g1
   have hx3:=hx2.trans hx3
   have hl3:=Heap.get_lt g1
   have hsk:=fS (erI e) w.length
   by_cases hcap:sC (erI e) w.length≤r
   case neg=>
    have hno:¬ DecOK g r b w (erI e):=fun h=>hcap h.few
    generalize sC (erI e) w.length=k at *
    (try simp only[aA])
    repeat' ((first|refine dD ?_|refine dB rfl ?_);(try simp only[aA]))
    refine m9 (fun h=>?_) (fun h=>?_)
    case refine_2=>exfalso;simp at h;omega
    clear h
    (try simp only[aA])
    repeat' ((first|refine dD ?_|refine dB rfl ?_);(try simp only[aA]))
    refine rE ?_
    exact⟨hx3.set (by omega),fun h=>absurd hin h,fun _ h=>absurd hlong h,fun _ _ _ _=>rfl,fun _ _ _ h=>absurd h hno⟩
   case pos=>
    (try simp only[aA])
    repeat' ((first|refine dD ?_|refine dB rfl ?_);(try simp only[aA]))
    refine m9 (fun h=>?_) (fun h=>?_)
    ·exfalso;simp at h;omega
    clear h
    (try simp only[aA])
    refine iS ?_
    refine aC (Hp (f:=f) (by omega) hg hc0 (hw0.mono hx3) hlong.1 hlong.2 gm hcap) ?_
    rintro v H4 ⟨hx4,hn4,hy4⟩
    have g1:=hx4.get g1
    have hx4:=hx3.trans hx4
    have hl4:=Heap.get_lt g1
    by_cases hd:DecOK g r b w (erI e)
    ·obtain⟨vw,vc,rfl,hvw,hvc,hnw⟩:=hy4 hd
     have hvw0:=hvw
     have hvc0:=hvc
     obtain⟨a1,k1,rfl⟩:=hvw.len
     obtain⟨a2,k2,rfl⟩:=hvc.len
     have hfl:=fm g r b w (erI e)
     clear hn4 hy4 gm g0
     (try simp only[aA])
     repeat' ((first|refine dD ?_|refine dB rfl ?_);(try simp only[aA]))
     refine rE ?_
     refine⟨hx4.set (by omega),fun h=>absurd hin h,fun _ h=>absurd hlong h,fun _ _ _ h=>absurd hd h,fun _ _ _ _=>⟨_,_,rfl,?_,?_,?_⟩⟩
     ·have:=wv (x:=.slice a1 (fD g r b w (erI e)).length k1) (y:=.slice a2 (sel (fun i=>decide (co (fD g r b w (erI e)) i≠co w i)) w.length).length k2) (fun x=>by unfold lY;simp) hvw0 g1
      rw[hfl]at this;exact this
     ·have:=wv (x:=.slice a1 (fD g r b w (erI e)).length k1) (y:=.slice a2 (sel (fun i=>decide (co (fD g r b w (erI e)) i≠co w i)) w.length).length k2) (fun x=>by unfold qQ;simp) hvc0 g1
      rw[hfl]at this;exact this
     ·rw[hfl]at hnw
      exact fun b o sp k c e=>Nat.le_trans hx3.1 (hnw b o sp k c e)
    ·rw[hn4 hd]
     clear hn4 hy4 gm g0
     unfold ny
     (try simp only[aA])
     repeat' ((first|refine dD ?_|refine dB rfl ?_);(try simp only[aA]))
     refine rE ?_
     exact⟨hx4.set (by omega),fun h=>absurd hin h,fun _ h=>absurd hlong h,fun _ _ _ _=>rfl,fun _ _ _ h=>absurd h hd⟩
end
end Go.Proofs.YtmnlgdpdgjbfgaaGreat
