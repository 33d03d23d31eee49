/- Lemmas. -/
import Derived.Test.YtmnlgdpdgjbfgaaGreatE23
set_option linter.unusedVariables false
set_option linter.unusedSimpArgs false
set_option linter.unusedSectionVars false
namespace Go.Proofs.YtmnlgdpdgjbfgaaGreat
open Go.Abs Go.RS
set_option maxRecDepth 20000
noncomputable def B3:List Value:=toL (byt [49,50,51,52,53,54])
theorem mG{n b:Nat}(hb:b<n)(l c:Nat)(sp:Option Nat):Sh (mv1 n b hb) (.slice (some ⟨0,0,sp⟩) l c) (.slice (some ⟨b,0,sp⟩) l c):=Sh.slice (k:=mv1 n b hb) 0 0 l c sp
section
variable {lo:Nat}{H:Heap}
def wM(N:Nat)(H:Heap)(sp:Option Nat)(n:Nat)(c:List Value)(v:Value):Prop:=∃j,N≤j∧v=.tuple #[.slice (some ⟨j,0,sp⟩) n n,.int .i64 0]∧H.get j=some c
theorem tq{b i:Nat}{sp:Option Nat}{n:Nat}{c:List Value}{v:Value}{H':Heap}(h:Ext H H'∧(∃hbl,v=BN (mv1 H.length b hbl) (.tuple #[.slice (some ⟨i+1,0,sp⟩) n n,.int .i64 0]))∧H'.get (H.length+i)=some c):Ext H H'∧wM H.length H' sp n c v:=by
 obtain⟨h1,⟨hbl,rfl⟩,h3⟩:=h
 refine⟨h1,H.length+i,by omega,?_,h3⟩
 show Value.tuple #[.slice (some ⟨(mv1 H.length b hbl).f (i+1),0,sp⟩) n n,.int .i64 0]=_
 rw[AD]
theorem UZ{b:Nat}(hb:H.get b=some B3)(hlo:lo≤H.length):Ev cp lo 38 [.slice (some ⟨b,0,none⟩) 6 6] H (fun v H'=>Ext H H'∧wM H.length H' none 3 (bA (exI [142,164,186])) v):=
 (iQ eb (i:=3687) Si rfl rfl rfl hlo hb (fun hbl=>LSh.cons (mG hbl 6 6 none) LSh.nil)).mono fun v H' h=>tq h
theorem Nk(hlo:lo≤H.length):Ev cp lo 38 [.slice none 0 0] H (fun v H'=>Ext H H'∧wM H.length H' none 0 (bA (exI [])) v):=
 (qT eb Nu rfl rfl rfl hlo).mono fun v H' h=>⟨h.1,H.length+348,by omega,by rw[h.2.1];show Value.tuple #[.slice (some ⟨(mv0 H.length).f 348,0,none⟩) 0 0,.int .i64 0]=_;rw[AI],h.2.2⟩
theorem SF(hlo:lo≤H.length):Ev cp lo 39 [.int .i64 3,.bool true] H (fun v H'=>Ext H H'∧v=.tuple #[szV,.int .i64 0]):=
 (w9 eb VE rfl rfl hlo).mono fun v H' h=>⟨h.1,h.2⟩
theorem NZ(hlo:lo≤H.length):Ev cp lo 39 [.int .i64 1,.bool false] H (fun v H'=>Ext H H'∧v=.tuple #[szV,.int .i64 0]):=
 (w9 eb On rfl rfl hlo).mono fun v H' h=>⟨h.1,h.2⟩
theorem Sk{b:Nat}(hb:H.get b=some (bA (exI [142,164,186])))(hlo:lo≤H.length):Ev cp lo 40 [.slice (some ⟨b,0,none⟩) 3 3,.int .i64 3] H (fun v H'=>Ext H H'∧wM H.length H' none 3 (bA (exI [142,164,186])) v):=
 (iQ eb (i:=0) VD rfl rfl rfl hlo hb (fun hbl=>LSh.cons (mG hbl 3 3 none) (LSh.cons (.int _ _) LSh.nil))).mono fun v H' h=>tq h
theorem Ox{b:Nat}(hb:H.get b=some (bA (exI [])))(hlo:lo≤H.length):Ev cp lo 40 [.slice (some ⟨b,0,none⟩) 0 0,.int .i64 3] H (fun v H'=>Ext H H'∧wM H.length H' none 3 (bA (exI [129,175,70])) v):=
 (iQ eb (i:=0) Nj rfl rfl rfl hlo hb (fun hbl=>LSh.cons (mG hbl 0 0 none) (LSh.cons (.int _ _) LSh.nil))).mono fun v H' h=>tq h
def yU(N:Nat)(H:Heap)(m:Nat)(v:Value):Prop:=∃j,N≤j∧v=.tuple #[.agg #[.int .i64 10,.int .i64 10,.slice (some ⟨j,0,none⟩) 100 100],.int .i64 0]∧H.get j=some (wC m)
theorem A4{b i m:Nat}{v:Value}{H':Heap}(h:Ext H H'∧(∃hbl,v=BN (mv1 H.length b hbl) (.tuple #[.agg #[.int .i64 10,.int .i64 10,.slice (some ⟨i+1,0,none⟩) 100 100],.int .i64 0]))∧H'.get (H.length+i)=some (wC m)):Ext H H'∧yU H.length H' m v:=by
 obtain⟨h1,⟨hbl,rfl⟩,h3⟩:=h
 refine⟨h1,H.length+i,by omega,?_,h3⟩
 show Value.tuple #[.agg #[.int .i64 10,.int .i64 10,.slice (some ⟨(mv1 H.length b hbl).f (i+1),0,none⟩) 100 100],.int .i64 0]=_
 rw[AD]
theorem DE{k:Mv}:Sh k szV szV:=fX rfl
theorem TO{b:Nat}(hb:H.get b=some (bA (exI w1N)))(hlo:lo≤H.length):Ev cp lo 41 [.slice (some ⟨b,0,none⟩) 8 8,szV] H (fun v H'=>Ext H H'∧yU H.length H' mx1 v):=
 (iQ eb (i:=112) UM rfl rfl (by decide) hlo hb (fun hbl=>LSh.cons (mG hbl 8 8 none) (LSh.cons DE LSh.nil))).mono fun v H' h=>A4 h
theorem Nq{b:Nat}(hb:H.get b=some (bA (exI w2N)))(hlo:lo≤H.length):Ev cp lo 41 [.slice (some ⟨b,0,none⟩) 8 8,szV] H (fun v H'=>Ext H H'∧yU H.length H' mx2 v):=
 (iQ eb (i:=112) N9 rfl rfl (by decide) hlo hb (fun hbl=>LSh.cons (mG hbl 8 8 none) (LSh.cons DE LSh.nil))).mono fun v H' h=>A4 h
theorem M9(m:Nat):toL (M3 m)=wC m:=by
 unfold M3 wC
 rw[ed,List.map_map];rfl
theorem TU{b:Nat}(hb:H.get b=some (wC mx1))(hlo:lo≤H.length):Ev cp lo 45 [.agg #[.int .i64 10,.int .i64 10,.slice (some ⟨b,0,none⟩) 100 100]] H (fun v H'=>Ext H H'∧∃j,H.length≤j∧v=.tuple #[.slice (some ⟨j,0,none⟩) 8 8,szV,.int .i64 0]∧H'.get j=some (bA (exI w1N))):=
 (iQ eb (i:=113) (args':=[.agg #[.int .i64 10,.int .i64 10,.slice (some ⟨b,0,none⟩) 100 100]]) Ue (by decide) rfl rfl hlo (by rw[M9];exact hb) (fun hbl=>LSh.cons (.agg _ _ rfl (fun j x y hx hy=>by
  rcases j with _|_|_|j
  ·cases hx;cases hy;exact .int _ _
  ·cases hx;cases hy;exact .int _ _
  ·cases hx;cases hy;exact mG hbl 100 100 none
  ·simp at hx)) LSh.nil)).mono fun v H' h=>by
   obtain⟨h1,⟨hbl,rfl⟩,h3⟩:=h
   refine⟨h1,H.length+113,by omega,?_,h3⟩
   show Value.tuple #[.slice (some ⟨(mv1 H.length b hbl).f (113+1),0,none⟩) 8 8,szV,.int .i64 0]=_
   rw[AD]
theorem SO{b:Nat}(hb:H.get b=some (bA (exI [142,164,186])))(hlo:lo≤H.length):Ev cp lo 46 [.slice (some ⟨b,0,none⟩) 3 3] H (fun v H'=>Ext H H'∧wM H.length H' (some 1) 6 B3 v):=
 (iQ eb (i:=6) SH rfl rfl rfl hlo hb (fun hbl=>LSh.cons (mG hbl 3 3 none) LSh.nil)).mono fun v H' h=>tq h
end
section
variable {lo:Nat}{H:Heap}
theorem rI{P:Prop}(h:P:=by simp(disch:=first|omega|(simp only[aK];omega))only[evB,kK,Nat.reduceAdd,Nat.reduceBEq,Int.reduceToNat, *];rfl):P:=h
theorem BT{cp:FuncId→Option CF}{lo:Nat}{l:List (Nat×E)}{chk:List E}{Q:aS}{S:List Value}{H:Heap}{vs:List (Nat×Value)}{S':List Value}(k:Q .normal S' H)(h:evSets S H l=some vs:=by exact rI)(hc:evChk S H chk=true:=by simp(disch:=first|omega|(simp only[aK];omega))only[evB,kK,Nat.reduceAdd,Nat.reduceBEq,Int.reduceToNat, *])(hS:setAll S vs=S':=by exact rI):wpS cp lo (.sets l chk) Q S H:=cL h hc hS k
theorem CH{cp:FuncId→Option CF}{lo:Nat}{l:List (Nat×E)}{chk:List E}{Q:aS}{S:List Value}{H:Heap}{vs:List (Nat×Value)}{dst:Option Nat}{o:HOp}{a:E}{xs:List Value}(k:wpH cp lo o xs H fun v H'=>Q .normal (setD (setAll S vs) dst v) H')(h:evSets S H l=some vs:=by exact rI)(hc:evChk S H chk=true:=by simp(disch:=first|omega|(simp only[aK];omega))only[evB,kK,Nat.reduceAdd,Nat.reduceBEq,Int.reduceToNat, *])(ha:ev S H a=some xs:=by exact rI):wpS cp lo (.hv l chk [] dst o a) Q S H:=eC h hc ha k
theorem Bb{cp:FuncId→Option CF}{lo:Nat}{l:List (Nat×E)}{chk:List E}{Q:aS}{S:List Value}{H:Heap}{vs:List (Nat×Value)}{dst:Option Nat}{o:HOp}{a:E}{xs:List Value}{S':List Value}{H':Heap}{v:Value}(hcall:o.isCall=false)(k:Q .normal S' H')(h:evSets S H l=some vs:=by exact rI)(hc:evChk S H chk=true:=by simp(disch:=first|omega|(simp only[aK];omega))only[evB,kK,Nat.reduceAdd,Nat.reduceBEq,Int.reduceToNat, *])(ha:ev S H a=some xs:=by exact rI)(ho:bG lo o xs H=some (v,H'):=by exact rI)(hS:setD (setAll S vs) dst v=S':=by exact rI):wpS cp lo (.hv l chk [] dst o a) Q S H:=eG hcall h hc ha ho hS k
theorem IC{cp:FuncId→Option CF}{lo:Nat}{c:E}{a b:Stm}{Q:aS}{S:List Value}{H:Heap}{t:Bool}(k1:t=true→wpS cp lo a Q S H)(k2:t=false→wpS cp lo b Q S H)(h:ev1 S H c=some (.bool t):=by exact rI):wpS cp lo (.cond c a b) Q S H:=cJ h k1 k2
theorem Uf{cf:CF}{R:Value→Heap→Prop}{S:List Value}{H:Heap}{vs:List Value}(k:R (aJ vs) H)(h:evList S H cf.res=some vs:=by exact rI):aG cf R .ret S H:=bT h k
theorem zi{vp:Value}{sq:Bool}{P:Heap→Prop}(hP:∀{H H'},P H→Ext H H'→P H'){n0:Nat}{l0 l1 w:List Nat}{m:Nat}{fn:Int}(hp:P H)
  (hE:∀{lo:Nat} {H:Heap},P H→lo≤H.length→Ev cp lo 38 [vp] H (fun v H'=>Ext H H'∧wM H.length H' none n0 (bA (exI l0)) v)) (hfn:(if (n0:Int)<1 then(1:Int) else(n0:Int))=fn)
  (hF:∀{lo:Nat} {H:Heap},lo≤H.length→Ev cp lo 39 [.int .i64 fn,.bool sq] H (fun v H'=>Ext H H'∧v=.tuple #[szV,.int .i64 0]))
  (hD:∀{lo b:Nat} {H:Heap},H.get b=some (bA (exI l0))→lo≤H.length→Ev cp lo 40 [.slice (some ⟨b,0,none⟩) n0 n0,.int .i64 3] H (fun v H'=>Ext H H'∧wM H.length H' none 3 (bA (exI l1)) v))
  (hl1:l1.length=3) (hlb:∀x ∈ l1,x<256) (hwl:w.length=8) (hwb:∀x ∈ w,x<256) (hpr:∀i,i<l1.length→w.getD i 0=l1.getD i 0) (hcw:kL g1 5 1 (exE w))
  (hM:∀{lo b:Nat} {H:Heap},H.get b=some (bA (exI w))→lo≤H.length→Ev cp lo 41 [.slice (some ⟨b,0,none⟩) 8 8,szV] H (fun v H'=>Ext H H'∧yU H.length H' m v)) (hlo:lo≤H.length) :
  Ev cp lo 18 [vp,.bool sq] H (fun v H'=>Ext H H'∧yU H.length H' m v):=by
 have hprot:=fun {lo:Nat} {H:Heap} {v:Value} (h:SlI H v (exI l1)) (hlo:lo≤H.length)=>KH (s:=(dz 0).sz) (lo:=lo) h (by simp[exI];omega) hlo
 have hsz:(dz 0).sz.val=szV:=rfl
 rw[hsz]at hprot
 clear hsz
 have hie:=Dl (by omega) hpr hcw
 have hW:=Np hie
 have hil:=Hd (N:=8) hW (by omega) hwb
 rw[List.take_of_length_le (by omega)]at hil
 have hvi:=zd hlb
 have h3:(exI l1).length=3:=by simp[exI,hl1]
 have h3':(exE l1).length=3:=by simp[exE,hl1]
 clear hie hpr hcw hwb hlb hwl hl1
 replace h3:False∨_:=.inr h3
 replace h3':False∨_:=.inr h3'
 replace hil:False∨_:=.inr hil
 replace hvi:False∨_:=.inr hvi
 refine Ua ?_;unfold Kn Dp;simp only[kB,aA]
 repeat' ((first|refine BT ?_|refine Bb rfl ?_);(try simp only[aA]))
 generalize hG:H++_=G at *
 obtain⟨g0,hxG⟩:=aV hG
 clear hG
 have hlG:=hxG.1
 refine CH ?_
 refine aC (hE (hP hp hxG) (by omega)) ?_
 rintro r H1 ⟨hx1,j1,hj1,rfl,hg1⟩
 clear hE
 have g0:=hx1.get g0
 have hx1:=hxG.trans hx1
 have hl1:=hx1.1
 (try simp only[aA])
 repeat' ((first|refine BT ?_|refine Bb rfl ?_);(try simp only[aA]))
 refine IC (fun h=>?_) (fun h=>?_)
 ·simp at h
 clear h
 (try simp only[aA])
 refine CH ?_
 refine aC (hF (by omega)) ?_
 rintro r H2 ⟨hx2,rfl⟩
 clear hF
 unfold szV at *
 have g0:=hx2.get g0
 have hg1:=hx2.get hg1
 have hx2:=hx1.trans hx2
 have hl2:=hx2.1
 (try simp only[aA])
 repeat' ((first|refine BT ?_|refine Bb rfl ?_);(try simp only[aA]))
 generalize hG:H2++_=G2 at *
 obtain⟨g6,hxG2⟩:=aV hG
 clear hG
 have g0:=hxG2.get g0
 have hg1:=hxG2.get hg1
 have hx3:=hx2.trans hxG2
 have hl3:=hx3.1
 have hq6:=Heap.get_lt g6
 refine IC (fun h=>?_) (fun h=>?_)
 ·simp at h
 clear h
 (try simp only[aA])
 refine CH ?_
 refine aC (hD hg1 (by omega)) ?_
 rintro r H3 ⟨hx4,j3,hj3,rfl,hg3⟩
 clear hD hg1
 have g0:=hx4.get g0
 have g6:=hx4.get g6
 have hx4:=hx3.trans hx4
 have hl4:=hx4.1
 (try simp only[aA])
 repeat' ((first|refine BT ?_|refine Bb rfl ?_);(try simp only[aA]))
 refine IC (fun h=>?_) (fun h=>?_)
 ·simp at h
 clear h
 (try simp only[aA])
 refine CH ?_
 refine aC (hprot (Sl.whole (enc:=Value.int .i64) (l:=exI l1) hg3 (h3.resolve_left id)) (by omega)) ?_
 rintro r H4 ⟨hx5,-,hr⟩
 obtain⟨j4,hj4,rfl,hg4,-⟩:=hr 0 (by decide) rfl (exE l1) (hvi.resolve_left id).symm (h3'.resolve_left id)
 have hg4:Heap.get H4 j4=some (bA (exI w)):=by rw[←hil.resolve_left id];exact hg4
 have ht:((dz 0).d+(dz 0).c)=8:=rfl
 rw[ht]
 clear hr hprot hg3 ht hvi hil hW
 have g0:=hx5.get g0
 have g6:=hx5.get g6
 have hq4:=Heap.get_lt g0
 have hx5:=hx4.trans hx5
 have hl5:=hx5.1
 (try simp only[aA])
 repeat' ((first|refine BT ?_|refine Bb rfl ?_);(try simp only[aA]))
 refine IC (fun h=>?_) (fun h=>?_)
 ·simp at h
 clear h
 (try simp only[aA])
 refine CH ?_
 refine aC (hM hg4 (by omega)) ?_
 rintro r H5 ⟨hx6,j5,hj5,rfl,hg5⟩
 clear hM hg4
 have g0:=hx6.get g0
 have hx6:=hx5.trans hx6
 have hl6:=hx6.1
 have hq0:=Heap.get_lt g0
 have hj6:=Heap.get_lt hg5
 (try simp only[aA])
 repeat' ((first|refine BT ?_|refine Bb rfl ?_);(try simp only[aA]))
 refine Uf ?_
 refine⟨hx6.set (by omega),j5,by omega,rfl,?_⟩
 rw[aM (by omega)];exact hg5
theorem Pj{b:Nat}(hb:H.get b=some B3)(hlo:lo≤H.length):Ev cp lo 18 [.slice (some ⟨b,0,none⟩) 6 6,.bool true] H (fun v H'=>Ext H H'∧yU H.length H' mx1 v):=
 zi (P:=fun H=>H.get b=some B3) (fun h e=>e.get h) (l0:=[142,164,186]) (l1:=[142,164,186]) (w:=w1N) (n0:=3) (fn:=3) hb (fun h hlo=>UZ h hlo) rfl (fun h=>SF h) (fun h hlo=>Sk h hlo) rfl (by decide) rfl (by decide) (by decide) zj (fun h hlo=>TO h hlo) hlo
theorem P6(hlo:lo≤H.length):Ev cp lo 18 [.slice none 0 0,.bool false] H (fun v H'=>Ext H H'∧yU H.length H' mx2 v):=
 zi (P:=fun _=>True) (fun _ _=>trivial) (l0:=[]) (l1:=[129,175,70]) (w:=w2N) (n0:=0) (fn:=1) trivial (fun _ hlo=>Nk hlo) rfl (fun h=>NZ h) (fun h hlo=>Ox h hlo) rfl (by decide) rfl (by decide) (by decide) QG (fun h hlo=>Nq h hlo) hlo
end
theorem ke{P:Prop}(h:P:=by simp(disch:=first|omega|(simp only[aK];omega))only[evB,kK,Nat.reduceAdd,Nat.reduceMul,Nat.reduceBEq,Int.reduceToNat, *];rfl):P:=h
theorem jt{cp:FuncId→Option CF}{lo:Nat}{l:List (Nat×E)}{chk:List E}{Q:aS}{S:List Value}{H:Heap}{vs:List (Nat×Value)}{S':List Value}(k:Q .normal S' H)(h:evSets S H l=some vs:=by exact ke)(hc:evChk S H chk=true:=by simp(disch:=first|omega|(simp only[aK];omega))only[evB,kK,Nat.reduceAdd,Nat.reduceMul,Nat.reduceBEq,Int.reduceToNat, *])(hS:setAll S vs=S':=by exact ke):wpS cp lo (.sets l chk) Q S H:=cL h hc hS k
theorem uD{cp:FuncId→Option CF}{lo:Nat}{l:List (Nat×E)}{chk:List E}{Q:aS}{S:List Value}{H:Heap}{vs:List (Nat×Value)}{dst:Option Nat}{o:HOp}{a:E}{xs:List Value}(k:wpH cp lo o xs H fun v H'=>Q .normal (setD (setAll S vs) dst v) H')(h:evSets S H l=some vs:=by exact ke)(hc:evChk S H chk=true:=by simp(disch:=first|omega|(simp only[aK];omega))only[evB,kK,Nat.reduceAdd,Nat.reduceMul,Nat.reduceBEq,Int.reduceToNat, *])(ha:ev S H a=some xs:=by exact ke):wpS cp lo (.hv l chk [] dst o a) Q S H:=eC h hc ha k
theorem jk{cp:FuncId→Option CF}{lo:Nat}{l:List (Nat×E)}{chk:List E}{Q:aS}{S:List Value}{H:Heap}{vs:List (Nat×Value)}{dst:Option Nat}{o:HOp}{a:E}{xs:List Value}{S':List Value}{H':Heap}{v:Value}(hcall:o.isCall=false)(k:Q .normal S' H')(h:evSets S H l=some vs:=by exact ke)(hc:evChk S H chk=true:=by simp(disch:=first|omega|(simp only[aK];omega))only[evB,kK,Nat.reduceAdd,Nat.reduceMul,Nat.reduceBEq,Int.reduceToNat, *])(ha:ev S H a=some xs:=by exact ke)(ho:bG lo o xs H=some (v,H'):=by exact ke)(hS:setD (setAll S vs) dst v=S':=by exact ke):wpS cp lo (.hv l chk [] dst o a) Q S H:=eG hcall h hc ha ho hS k
theorem BB{cp:FuncId→Option CF}{lo:Nat}{c:E}{a b:Stm}{Q:aS}{S:List Value}{H:Heap}{t:Bool}(k1:t=true→wpS cp lo a Q S H)(k2:t=false→wpS cp lo b Q S H)(h:ev1 S H c=some (.bool t):=by exact ke):wpS cp lo (.cond c a b) Q S H:=cJ h k1 k2
theorem FK{cf:CF}{R:Value→Heap→Prop}{S:List Value}{H:Heap}{vs:List Value}(k:R (aJ vs) H)(h:evList S H cf.res=some vs:=by exact ke):aG cf R .ret S H:=bT h k
theorem same{lo:Nat}{H:Heap}{va vb:Value}{a b:List Int}(ha:SlI H va a)(hb:SlI H vb b)(hsm:a.length≤1000000000)(hbm:b.length≤1000000000):Ev cp lo 15 [va,vb] H (fun v H'=>H'=H∧v=.bool (decide (a=b))):=by
 have ha0:=ha
 have hb0:=hb
 obtain⟨ada,ca,rfl⟩:=ha.len
 obtain⟨adb,cb,rfl⟩:=hb.len
 refine Sv ?_;unfold KU Dm;simp only[kB,aA]
 repeat' ((first|refine jt ?_|refine jk rfl ?_);(try simp only[aA]))
 refine BB (fun h=>?_) (fun h=>?_)
 ·have hne:¬ a=b:=by
   rintro rfl;simp at h
  clear h
  (try simp only[aA])
  repeat' ((first|refine jt ?_|refine jk rfl ?_);(try simp only[aA]))
  refine FK ?_
  exact⟨rfl,by simp[aJ,hne]⟩
 have hlen:a.length≤b.length∧b.length≤a.length:=by simp at h;omega
 clear h
 (try simp only[aA])
 repeat' ((first|refine jt ?_|refine jk rfl ?_);(try simp only[aA]))
 refine aU (fun i S H'=>H=H'∧(∀j,j<i→a.getD j 0=b.getD j 0)∧S=[.slice ada a.length ca,.slice adb b.length cb,.bool false,.int .i64 (i:Nat)]) a.length ?_ ?_ ?_ ?_
 ·exact⟨rfl,by omega,rfl⟩
 ·rintro i S H' hi ⟨rfl,-,rfl⟩
  exact⟨_,ke,by simp⟩
 ·rintro i S H' hi ⟨rfl,hall,rfl⟩
  obtain⟨xb,xo,xsp,xc,xs,e1,g1,f1,l1⟩:=ha0.els 0 (by omega)
  obtain⟨yb,yo,ysp,yc,ys,e2,g2,f2,l2⟩:=hb0.els 0 (by omega)
  cases e1
  cases e2
  have k1:=f1 i hi
  have k2:=f2 i (by omega)
  clear f1 f2
  (try simp only[aA])
  refine BB (fun h=>?_) (fun h=>?_)
  ·have hne:¬ a=b:=by
    rintro rfl;simp at h
   clear h
   (try simp only[aA])
   repeat' ((first|refine jt ?_|refine jk rfl ?_);(try simp only[aA]))
   refine FK ?_
   exact⟨rfl,by simp[aJ,hne]⟩
  ·have he:a.getD i 0=b.getD i 0:=by simpa using h
   clear h k1 k2
   (try simp only[aA])
   repeat' ((first|refine jt ?_|refine jk rfl ?_);(try simp only[aA]))
   refine⟨by trivial,fun j hj=>?_,(by first|rfl|(simp only[Int.natCast_add,Int.natCast_one];rfl)|simp only[Int.natCast_add,Int.natCast_one])⟩
   by_cases e:j=i
   ·subst e;exact he
   ·exact hall j (by omega)
 ·rintro S H' ⟨rfl,hall,rfl⟩
  have hab:a=b:=by
   apply List.ext_getElem (by omega)
   intro i h1 h2
   have:=hall i h1
   simpa[List.getD_eq_getElem?_getD,List.getElem?_eq_getElem h1,List.getElem?_eq_getElem h2]using this
  (try simp only[aA])
  repeat' ((first|refine jt ?_|refine jk rfl ?_);(try simp only[aA]))
  refine FK ?_
  exact⟨rfl,by simp[aJ,hab]⟩
theorem tO{lo:Nat}{H:Heap}{va vb:Value}{a b:List Int}(ha:SlI H va a)(hb:SlI H vb b)(hsm:a.length≤1000000000)(hbm:b.length≤1000000000)(h:a=b):Ev cp lo 15 [va,vb] H (fun v H'=>H=H'∧v=.bool true):=by
 have:=same (lo:=lo) ha hb hsm hbm
 rw[decide_eq_true h]at this
 exact this.mono fun v H' h=>⟨h.1.symm,h.2⟩
section
variable {lo:Nat}{H:Heap}
theorem QQ{b:Nat}(hb:H.get b=some (wC mx1))(hlo:lo≤H.length):Ev cp lo 21 [.agg #[.int .i64 10,.int .i64 10,.slice (some ⟨b,0,none⟩) 100 100]] H (fun v H'=>Ext H H'∧∃j,v=.tuple #[.slice (some ⟨j,0,some 1⟩) 6 6,.int .i64 0,.int .i64 0]∧H'.get j=some B3):=by
 have hcorr:=fun {lo:Nat} {H:Heap} {v:Value} (h:SlI H v (exI w1N)) (hlo:lo≤H.length)=>xQ (s:=(dz 0).sz) (lo:=lo) h (by decide) hlo
 have hsz:(dz 0).sz.val=szV:=rfl
 rw[hsz]at hcorr
 clear hsz
 have hfx:=J0 (wl:=w1N) (w:=w1N) (k:=0) rfl rfl (by decide) zj (by decide +kernel) (by decide)
 have hil:=Hd (N:=3) hfx.2.1 (by decide) (by decide)
 replace hil:False∨_:=.inr hil
 refine U9 ?_;unfold Li DZ;simp only[kB,aA]
 repeat' ((first|refine jt ?_|refine jk rfl ?_);(try simp only[aA]))
 generalize hG:H++_=G at *
 obtain⟨g0,hxG⟩:=aV hG
 clear hG
 have hlG:=hxG.1
 refine uD ?_
 refine aC (TU (hxG.get hb) (by omega)) ?_
 rintro r H1 ⟨hx1,j1,hj1,rfl,hg1⟩
 have hx1:=hxG.trans hx1
 have hl1:=hx1.1
 clear hb g0
 unfold szV at *
 (try simp only[aA])
 repeat' ((first|refine jt ?_|refine jk rfl ?_);(try simp only[aA]))
 generalize hG:H1++_=G1 at *
 obtain⟨g6,hxG1⟩:=aV hG
 clear hG
 have hg1:=hxG1.get hg1
 have hx2:=hx1.trans hxG1
 have hl2:=hx2.1
 refine BB (fun h=>?_) (fun h=>?_)
 ·simp at h
 clear h
 (try simp only[aA])
 refine uD ?_
 refine aC (hcorr (Sl.whole (enc:=Value.int .i64) (l:=exI w1N) hg1 rfl) (by omega)) ?_
 rintro r H2 ⟨hx3,-,hr⟩
 obtain⟨j2,hj2,rfl,hg2⟩:=(hr 0 (by decide) rfl rfl (by decide)).2 hfx.1
 have hg2:Heap.get H2 j2=some (bA (exI [142,164,186])):=by rw[hg2];exact congrArg (fun l=>some (bA l)) (hil.resolve_left id)
 have hsum:=hfx.2.2
 rw[hsum,show(dz 0).d=3 from rfl]
 clear hr hcorr hfx hil hsum hg1
 have hx3:=hx2.trans hx3
 have hl3:=hx3.1
 (try simp only[aA])
 repeat' ((first|refine jt ?_|refine jk rfl ?_);(try simp only[aA]))
 refine BB (fun h=>?_) (fun h=>?_)
 ·simp at h
 clear h
 (try simp only[aA])
 refine uD ?_
 refine aC (SO hg2 (by omega)) ?_
 rintro r H3 ⟨hx4,j3,hj3,rfl,hg3⟩
 have hx4:=hx3.trans hx4
 (try simp only[aA])
 repeat' ((first|refine jt ?_|refine jk rfl ?_);(try simp only[aA]))
 refine BB (fun h=>?_) (fun h=>?_)
 ·simp at h
 clear h
 (try simp only[aA])
 repeat' ((first|refine jt ?_|refine jk rfl ?_);(try simp only[aA]))
 refine FK ?_
 exact⟨hx4,j3,rfl,hg3⟩
end
def wxN:List Nat:=[142,0,186,114,25,5,88,0]
section
variable {lo:Nat}{H:Heap}
theorem HJ{R:Value→Heap→Prop}{b o n c:Nat}{X:List Value}(hg:H.get b=some X)(hlo:lo≤b)(k:R (.slice (some ⟨b,o,none⟩) n c) H):wpH cp lo .frz [.slice (some ⟨b,o,none⟩) n c] H R:=by
 simp only[wpH,bG,hsem,iw,hg,if_pos hlo]
 exact k
theorem TR{H:Heap}{j:Nat}(h:H.get j=some B3):aH .b2s [.slice (some ⟨j,0,some 1⟩) 6 6] H=some (.string ⟨#[49,50,51,52,53,54]⟩):=by
 simp only[aH,Heap.cells,h]
 rfl
theorem Ui{H:Heap}:aH (.bin .eql) [.string ⟨#[49,50,51,52,53,54]⟩,.string ⟨#[49,50,51,52,53,54]⟩] H=some (.bool true):=by
 simp only[aH,bC,qK,beq_self_eq_true]
theorem Pd{cp:FuncId→Option CF}{lo:Nat}{l:List (Nat×E)}{chk:List E}{Q:aS}{S:List Value}{H:Heap}{vs:List (Nat×Value)}{dst:Option Nat}{o:HOp}{a:E}{xs:List Value}{pc:PC}(k:wpH cp lo o xs H fun v H'=>Q .normal (setD (setAll S vs) dst v) H')(h:evSets S H l=some vs:=by exact ke)(hc:evChk S H chk=true:=by simp(disch:=first|omega|(simp only[aK];omega))only[evB,kK,Nat.reduceAdd,Nat.reduceMul,Nat.reduceBEq,Int.reduceToNat, *])(hp:holds S H pc=some true:=by simp(disch:=first|omega|(simp only[aK];omega))only[evB,kK,Nat.reduceAdd,Nat.reduceMul,Nat.reduceBEq,Int.reduceToNat, *];try rfl)(ha:ev S H a=some xs:=by exact ke):wpS cp lo (.hv l chk pc dst o a) Q S H:=yY h hc hp ha k
theorem N6{cp:FuncId→Option CF}{lo:Nat}{l:List (Nat×E)}{chk:List E}{Q:aS}{S:List Value}{H:Heap}{vs:List (Nat×Value)}{dst:Option Nat}{o:HOp}{a:E}{xs:List Value}{pc:PC}{S':List Value}{H':Heap}{v:Value}(hcall:o.isCall=false)(k:Q .normal S' H')(h:evSets S H l=some vs:=by exact ke)(hc:evChk S H chk=true:=by simp(disch:=first|omega|(simp only[aK];omega))only[evB,kK,Nat.reduceAdd,Nat.reduceMul,Nat.reduceBEq,Int.reduceToNat, *])(hp:holds S H pc=some true:=by simp(disch:=first|omega|(simp only[aK];omega))only[evB,kK,Nat.reduceAdd,Nat.reduceMul,Nat.reduceBEq,Int.reduceToNat, *];try rfl)(ha:ev S H a=some xs:=by exact ke)(ho:bG lo o xs H=some (v,H'):=by exact ke)(hS:setD (setAll S vs) dst v=S':=by exact ke):wpS cp lo (.hv l chk pc dst o a) Q S H:=ML hcall h hc hp ha ho hS k
set_option maxHeartbeats 1000000 in
theorem exH(hlo:lo≤H.length):Ev cp lo 12 [] H (fun v H'=>Ext H H'∧v=.bool true):=by
 have hprot:=fun {lo:Nat} {H:Heap} {v:Value} (h:SlI H v (exI [142,164,186])) (hlo:lo≤H.length)=>KH (s:=(dz 0).sz) (lo:=lo) h (by decide) hlo
 have hcorr:=fun {lo:Nat} {H:Heap} {v:Value} (h:SlI H v (exI wxN)) (hlo:lo≤H.length)=>xQ (s:=(dz 0).sz) (lo:=lo) h (by decide) hlo
 have hsz:(dz 0).sz.val=szV:=rfl
 rw[hsz]at hcorr hprot
 clear hsz
 have hie:IsEnc g1 5 1 (exE [142,164,186]) (exE w1N):=Dl (by decide) (by decide) zj
 have hil:=Hd (N:=8) (Np hie) (by decide) (by decide)
 have hfx:=J0 (wl:=wxN) (w:=w1N) (k:=2) rfl rfl (by decide) zj (by decide +kernel) (by decide)
 have hil2:=Hd (N:=3) hfx.2.1 (by decide) (by decide)
 replace hil:False∨_:=.inr hil
 replace hil2:False∨_:=.inr hil2
 replace hfx:False∨_:=.inr hfx
 clear hie
 unfold szV at *
 refine TW ?_;unfold K1 Ge;simp only[kB,aA]
 repeat' ((first|refine jt ?_|refine jk rfl ?_);(try simp only[aA]))
 generalize hG:H++_=G at *
 obtain⟨g0,hxG⟩:=aV hG
 have g1:Heap.get G (H.length+1)=some (bA (exI [142,164,186])):=by rw[←hG,az];rfl
 clear hG
 have hlG:=Heap.get_lt g1
 refine uD ?_
 refine aC (hprot (Sl.whole (enc:=Value.int .i64) (l:=exI [142,164,186]) g1 rfl) (by omega)) ?_
 rintro r H1 ⟨hx1,-,hr⟩
 obtain⟨j1,hj1,rfl,hg1,-⟩:=hr 0 (by decide) rfl (exE [142,164,186]) (zd (by decide)).symm rfl
 have hg1:Heap.get H1 j1=some (bA (exI w1N)):=by rw[hg1];exact congrArg (fun l=>some (bA l)) (hil.resolve_left id)
 have ht:((dz 0).d+(dz 0).c)=8:=rfl
 rw[ht]
 clear hr hprot ht hil g1
 have g0:=hx1.get g0
 have hx1:=hxG.trans hx1
 have hl1:=hx1.1
 (try simp only[aA])
 repeat' ((first|refine jt ?_|refine jk rfl ?_);(try simp only[aA]))
 (refine N6 rfl ?_;(try simp only[aA]))
 generalize hG:H1++_=G1 at *
 obtain⟨g2,hxG1⟩:=aV hG
 clear hG
 have hg1:=hxG1.get hg1
 have g0:=hxG1.get g0
 have hx2:=hx1.trans hxG1
 have hl2:=hx2.1
 refine Pd ?_
 refine aC (tO (Sl.whole (enc:=Value.int .i64) (l:=exI w1N) hg1 rfl) (Sl.whole (enc:=Value.int .i64) (l:=exI w1N) g2 rfl) (by decide) (by decide) rfl) ?_
 rintro v _ ⟨rfl,rfl⟩
 clear g2
 have hlj:=Heap.get_lt hg1
 have hcl:(bA (exI w1N)).length=8:=rfl
 (try simp only[aA])
 refine BB (fun h=>?_) (fun h=>?_)
 ·simp at h
 clear h
 (try simp only[aA])
 repeat' ((first|refine jt ?_|refine jk rfl ?_);(try simp only[aA]))
 generalize hG:(G1.set j1 _).set j1 _=G2 at *
 have hg2:Heap.get G2 j1=some (bA (exI wxN)):=by rw[←hG,aI (by simpa using hlj)];rfl
 have hx3:Ext H G2:=by rw[←hG];exact(hx2.set (by omega)).set (by omega)
 have g0':Heap.get G2 H.length=some szV.cells.toList:=by rw[←hG,aM (by omega),aM (by omega)];exact g0
 unfold szV at g0'
 clear hG hg1 g0 hcl
 have hl3:=hx3.1
 refine uD ?_
 refine aC (hcorr (Sl.whole (enc:=Value.int .i64) (l:=exI wxN) hg2 rfl) (by omega)) ?_
 rintro r H2 ⟨hx4,-,hr⟩
 obtain⟨j2,hj2,rfl,hgc⟩:=(hr 0 (by decide) rfl rfl (by decide)).2 (hfx.resolve_left id).1
 have hgc:Heap.get H2 j2=some (bA (exI [142,164,186])):=by rw[hgc];exact congrArg (fun l=>some (bA l)) (hil2.resolve_left id)
 have hsum:=(hfx.resolve_left id).2.2
 rw[hsum,show(dz 0).d=3 from rfl]
 clear hr hcorr hfx hil2 hsum hg2 g0'
 have hx4:=hx3.trans hx4
 have hl4:=hx4.1
 (try simp only[aA])
 repeat' ((first|refine jt ?_|refine jk rfl ?_);(try simp only[aA]))
 generalize hG:H2++_=G3 at *
 obtain⟨gb,hxG3⟩:=aV hG
 clear hG
 have hgc:=hxG3.get hgc
 have hx5:=hx4.trans hxG3
 have hl5:=hx5.1
 refine uD ?_
 refine HJ gb (by omega) ?_
 (try simp only[aA])
 refine uD ?_
 refine aC (Pj (b:=H2.length) gb (by omega)) ?_
 rintro r H3 ⟨hx6,j3,hj3,rfl,hg3⟩
 clear gb
 have hgc:=hx6.get hgc
 have hx6:=hx5.trans hx6
 have hl6:=hx6.1
 (try simp only[aA])
 repeat' ((first|refine jt ?_|refine jk rfl ?_);(try simp only[aA]))
 generalize hG:H3++_=G4 at *
 obtain⟨g7,hxG4⟩:=aV hG
 clear hG
 have hgc:=hxG4.get hgc
 have hg3:=hxG4.get hg3
 have hx7:=hx6.trans hxG4
 have hl7:=hx7.1
 refine uD ?_
 refine aC (QQ hg3 (by omega)) ?_
 rintro r H4 ⟨hx8,j4,rfl,hg4⟩
 have hgc:=hx8.get hgc
 have g7:=hx8.get g7
 have hx8:=hx7.trans hx8
 have hl8:=hx8.1
 clear hg3
 (try simp only[aA])
 repeat' ((first|refine jt ?_|refine jk rfl ?_);(try simp only[aA]))
 refine uD ?_
 refine aC (P6 (by omega)) ?_
 rintro r H5 ⟨hx9,j5,hj5,rfl,-⟩
 have hgc:=hx9.get hgc
 have g7:=hx9.get g7
 have hg4:=hx9.get hg4
 have hx9:=hx8.trans hx9
 have hl9:=hx9.1
 (try simp only[aA])
 repeat' ((first|refine jt ?_|refine jk rfl ?_);(try simp only[aA]))
 generalize hG:H5++_=G6 at *
 obtain⟨g12,hxG6⟩:=aV hG
 clear hG
 have hgc:=hxG6.get hgc
 have g7:=hxG6.get g7
 have hg4:=hxG6.get hg4
 have hx10:=hx9.trans hxG6
 have hl10:=hx10.1
 clear g0
 (refine N6 rfl ?_;(try simp only[aA]))
 generalize hG:G6++_=G7 at *
 obtain⟨g13,hxG7⟩:=aV hG
 clear hG
 have hgc:=hxG7.get hgc
 have g7:=hxG7.get g7
 have g12:=hxG7.get g12
 have hg4:=hxG7.get hg4
 have hx11:=hx10.trans hxG7
 have hl11:=hx11.1
 refine Pd ?_
 refine aC (tO (Sl.whole (enc:=Value.int .i64) (l:=exI [142,164,186]) hgc rfl) (Sl.whole (enc:=Value.int .i64) (l:=exI [142,164,186]) g13 rfl) (by decide) (by decide) rfl) ?_
 rintro v _ ⟨rfl,rfl⟩
 have e1:=TR hg4
 have e2:=Ui (H:=G7)
 have hq7:=Heap.get_lt g7
 have hq12:=Heap.get_lt g12
 clear hgc g13 hg4
 (try simp only[aA])
 repeat' ((first|refine jt ?_|refine jk rfl ?_);(try simp only[aA]))
 refine FK ?_
 exact⟨hx11,rfl⟩
end
end Go.Proofs.YtmnlgdpdgjbfgaaGreat
