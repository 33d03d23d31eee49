/- DatamatrixRepairs returns true for every list of numbers and size: Correct agrees with the reference. No conditions. -/
import Derived.Test.YtmnlgdpdgjbfgaaGreatE25
import Derived.Test.YtmnlgdpdgjbfgaaGreatE26
set_option linter.unusedVariables false
set_option linter.unusedSimpArgs false
set_option linter.unusedSectionVars false
namespace Go.Proofs.YtmnlgdpdgjbfgaaGreat
open Go.Abs Go.RS
set_option maxRecDepth 20000
section
variable {lo:Nat}
theorem pM{H:Heap}:SlI H (.slice none 0 0) []:=.inl ⟨rfl,rfl⟩
theorem Dg{s:Sz}{v:Value}{l:List Int}(hll:l.length≤1000000000):∃(L:List Int) (n k:Int),L.length≤10000∧(∀H,SlI H v l→lo≤H.length→Ev cp lo 16 [v,s.val] H (fun r H'=>Ext H H'∧∃vo,r=.tuple #[vo,.int .i64 n,.int .i64 k]∧SlI H' vo L)) ∧
  (∀H,SlI H v l→lo≤H.length→Ev cp lo 17 [v,s.val] H (fun r H'=>Ext H H'∧∃vo,r=.tuple #[vo,.int .i64 n,.int .i64 k]∧SlI H' vo L)):=by
 by_cases he:fZ s l (jf s)=0
 ·obtain⟨hs,hln,hin⟩:=yW he
  obtain⟨i,hi,rfl⟩:=ie.1 hs
  rw[nW hi]at hln
  have hlen:l.length=(dz i).d+(dz i).c:=by omega
  by_cases hok:∀x,x<(dz i).n→OkX (dz i) l x
  ·refine⟨ilv (dz i).n (fxX (dz i) l) (dz i).d,(ek (nch (dz i) l) (dz i).n:Nat),0,?_,fun H hl hlo=>(xQ hl hll hlo).mono fun r H' h=>⟨h.1,?_⟩,fun H hl hlo=>(C3 hl hll hlo).mono fun r H' h=>⟨h.1,(h.2.2 i hi rfl hlen hin).2 hok⟩⟩
   ·rw[lP]
    have:=(pX hi).d2
    omega
   ·obtain⟨b,_,e1,e2⟩:=(h.2.2 i hi rfl hlen hin).2 hok
    exact⟨_,e1,Sl.whole e2 (lP _ _ _)⟩
  ·exact⟨[],0,17,by simp,fun H hl hlo=>(xQ hl hll hlo).mono fun r H' h=>⟨h.1,_,(h.2.2 i hi rfl hlen hin).1 hok,pM⟩,fun H hl hlo=>(C3 hl hll hlo).mono fun r H' h=>⟨h.1,_,(h.2.2 i hi rfl hlen hin).1 hok,pM⟩⟩
 ·exact⟨[],0,fZ s l (jf s),by simp,fun H hl hlo=>(xQ hl hll hlo).mono fun r H' h=>⟨h.1,_,h.2.1 he,pM⟩,fun H hl hlo=>(C3 hl hll hlo).mono fun r H' h=>⟨h.1,_,h.2.1 he,pM⟩⟩
theorem Ov{cp:FuncId→Option CF}{lo:Nat}{l:List (Nat×E)}{chk:List E}{Q:aS}{S:List Value}{H:Heap}{vs:List (Nat×Value)}{dst:Option Nat}{o:HOp}{a:E}{xs:List Value}{pc:PC}(k:wpH cp lo o xs H fun v H'=>Q .normal (setD (setAll S vs) dst v) H')(h:evSets S H l=some vs:=by exact mu)(hc:evChk S H chk=true:=by simp(disch:=first|omega|(simp only[aK];omega))only[evB,kK,Nat.reduceAdd,Nat.reduceBEq, *])(hp:holds S H pc=some true:=by simp(disch:=first|omega|(simp only[aK];omega))only[evB,kK,Nat.reduceAdd,Nat.reduceBEq, *];try rfl)(ha:ev S H a=some xs:=by exact mu):wpS cp lo (.hv l chk pc dst o a) Q S H:=yY h hc hp ha k
theorem Ma{H:Heap}{s:Sz}{v:Value}{l:List Int}(hl:SlI H v l):Ev cp H.length 4 [v,s.val] H (fun v _=>v=.bool true):=by
 have hl0:=hl
 obtain⟨ad,cd,rfl⟩:=hl.len
 refine st4 ?_;unfold bd4 cf4;simp only[kB,aA]
 repeat' ((first|refine oL ?_|refine nr rfl ?_);(try simp only[aA]))
 generalize hG:H++_=G at *
 obtain⟨g0,hxG⟩:=aV hG
 clear hG
 have hlG:=hxG.1
 replace g0:G.get H.length=some s.cells:=g0
 unfold Sz.cells at g0
 by_cases h3:900<l.length
 ·refine Mq (fun h=>?_) (fun h=>?_)
  case refine_2=>simp at h;omega
  clear h
  (try simp only[aA])
  refine Fl ?_
  refine aC (exH hlG) ?_
  rintro r H1 ⟨-,rfl⟩
  (try simp only[aA])
  repeat' ((first|refine oL ?_|refine nr rfl ?_);(try simp only[aA]))
  refine Hh ?_
  rfl
 refine Mq (fun h=>?_) (fun h=>?_)
 ·simp at h;omega
 clear h
 obtain⟨L,n,k,hL,hP,hV⟩:=Dg (lo:=H.length) (s:=s) (v:=.slice ad l.length cd) (l:=l) (by omega)
 (try simp only[aA])
 refine Fl ?_
 refine aC (hP G (hl0.mono hxG) hlG) ?_
 rintro r H1 ⟨hx1,v1,rfl,hv1⟩
 have g0:=hx1.get g0
 have hx1:=hxG.trans hx1
 have hl1:=hx1.1
 have hV:=hV H1 (hl0.mono hx1) hl1
 clear hP
 (try simp only[aA])
 repeat' ((first|refine oL ?_|refine nr rfl ?_);(try simp only[aA]))
 refine Fl ?_
 refine aC hV ?_
 rintro r H2 ⟨hx2,v2,rfl,hv2⟩
 have hv1:=hv1.mono hx2
 have hx2:=hx1.trans hx2
 have hl2:=hx2.1
 clear hV hx1 hl hl0 g0
 (try simp only[aA])
 repeat' ((first|refine oL ?_|refine nr rfl ?_);(try simp only[aA]))
 refine Ov ?_
 refine aC (tO hv1 hv2 (by omega) (by omega) rfl) ?_
 rintro r _ ⟨rfl,rfl⟩
 (try simp only[aA])
 refine Ov ?_
 refine aC (exH hl2) ?_
 rintro r H3 ⟨-,rfl⟩
 (try simp only[aA])
 repeat' ((first|refine oL ?_|refine nr rfl ?_);(try simp only[aA]))
 refine Hh ?_
 rfl
end
open Go.Abs
namespace datamatrixRepairs
open Go.ChangeShapes Go.WideShapes Go.ChangeAt Go.RowKit
theorem fnE(X:Type)(ds:List (DataW X))(h:ds.length=2):Rows.datamatrixRepairsSpec.fn X ds=⟨[.lit (.bool true)],ds,[]⟩:=by
 match ds,h with
 | [d1,d2],_=>rfl
theorem lawAll(H:Heap)(vs:List Value)(h:ma maxLen H [.sl (.int .i64),.rcd [.int .i64,.int .i64,.int .i64,.int .i64,.int .i64,.int .i64,.int .i64]] vs):Ev cp H.length 4 vs H (fun v _=>v=.bool true):=by
 simp only[ma]at h
 obtain⟨a1,r1,rfl,h1,a2,r2,rfl,h2,rfl⟩:=h
 simp only[HasArg]at h1
 obtain⟨v,l,e1,hl,hm⟩:=MV h1
 cases e1
 obtain⟨s,rfl⟩:=HO h2
 exact Ma hl
set_option maxRecDepth 100000 in
theorem lifted(os:Os)(started:os.Started)(H:Type)(enc:TypeId×Value→H) :
  ReturnsInHanded {} Tryz.checked os 4 .any (Rows.datamatrixRepairsSpec.pre6 enc Tryz.prog Tryz.f4 Rows.datamatrixRepairsRow.domain false) (Rows.datamatrixRepairsSpec.post enc Tryz.prog Tryz.f4 false true false false):=by
 refine returnsInHanded_of_change (C:=Tryz.checked) own started (by kernel_rfl) Tryz.func4
  (ChangeSpec.witness6 (enc:=enc) (C:=Tryz.checked) false ⟨#[],#[.slice none 0 0,.agg #[.int .i64 0,.int .i64 0,.int .i64 0,.int .i64 0,.int .i64 0,.int .i64 0,.int .i64 0]],[]⟩ 8 (by kernel_rfl) (by kernel_rfl) (by kernel_rfl) (by kernel_rfl)) ?_
 intro W base args ds gs before cZ hW _ _
 exact tj (P:=Tryz.prog) (fn:=Tryz.f4) (s:=Rows.datamatrixRepairsSpec) PJ (d:=8) (tys:=[.sl (.int .i64),.rcd [.int .i64,.int .i64,.int .i64,.int .i64,.int .i64,.int .i64,.int .i64]]) (by kernel_rfl) (by kernel_rfl) (by kernel_rfl) Tryz.underlying4 laidOut (by kernel_rfl) rfl fnE lawAll W (by rw[BU];omega) base args ds gs before cZ hW (fun x _=>.inl (Nat.le_refl _))
theorem over:Rows.datamatrixRepairsRow.holds Tryz.pinned (OpenSpec.ofChange Rows.datamatrixRepairsSpec):=
 OpenClaim.holds_of_wide 4 Tryz.f4 rfl rfl rfl rfl rfl rfl rfl ⟨rfl,rfl,rfl,rfl,rfl⟩ rfl rfl rfl rfl rfl (by kernel_rfl) Tryz.func4 (by kernel_rfl)
  (of_decide_eq_true (by kernel_rfl)) (by unfold Func.isWrapper;first|(rw[if_pos (by decide +kernel)];kernel_rfl)|(rw[if_neg (by decide +kernel)];exact⟨rfl,rfl⟩))
  (fun os started H enc _=>lifted os started H enc)
theorem proved:Rows.DatamatrixRepairsSaid:=over
#print axioms proved
end datamatrixRepairs
end Go.Proofs.YtmnlgdpdgjbfgaaGreat
