/- Lemmas. -/
import Derived.Test.YtmnlgdpdgjbfgaaGreatL9
import Derived.Test.YtmnlgdpdgjbfgaaGreatL22
import Derived.Test.YtmnlgdpdgjbfgaaGreatL31
import Derived.Test.YtmnlgdpdgjbfgaaGreatL32
import Derived.Test.YtmnlgdpdgjbfgaaGreatL33
import Derived.Test.YtmnlgdpdgjbfgaaGreatL34
import Derived.Test.YtmnlgdpdgjbfgaaGreatL35
set_option linter.all false
namespace Go.Proofs.YtmnlgdpdgjbfgaaGreat
open Go.Abs
theorem y7{a b:List Int}(hl:a.length=b.length)(h:∀i,i<a.length->a.getD i 0=b.getD i 0):a=b:=by
 apply List.ext_getElem hl;intro i h1 h2;have:=h i h1;simpa[au₀,bb₀ h1,bb₀ h2]using this
theorem Dn{R h rr K x:Int}(hR:R=K*h)(hh:h=rr+2)(hrr:0<rr)(h0:0<=x)(hx:x<R)(_:0<=K)(n0:¬ x.tmod h=0)(n1:¬ x.tmod h=rr+1):0<=x.tdiv h*rr+x.tmod h-1/\x.tdiv h*rr+x.tmod h-1<K*rr:=by
 rw[Int.tdiv_eq_ediv_of_nonneg h0]at *;rw[Int.tmod_eq_emod_of_nonneg h0]at *;have m0:=Int.emod_nonneg x (show h≠0 by omega);have m1:=Int.emod_lt_of_pos x (show 0<h by omega);have d0:0<=x/h:=Int.ediv_nonneg h0 byO;have d1:x/h<K:=Int.ediv_lt_of_lt_mul byO (by rw[<-hR];exact hx);have p0:0<=x/h*rr:=Int.mul_nonneg d0 byO;have p1:(x/h+1)*rr<=K*rr:=Int.mul_le_mul_of_nonneg_right byO byO;rw[Int.add_mul]at p1;omega
structure SzFit (s:Sz):Prop where
 hr:s.r=s.r.tdiv (s.rr+2)*(s.rr+2)
 hc:s.c=s.c.tdiv (s.rc+2)*(s.rc+2)
theorem If:∀s ∈ szs,SzFit s:=by
 have h:szs.all (fun s=>decide (s.r=s.r.tdiv (s.rr+2)*(s.rr+2))&&decide (s.c=s.c.tdiv (s.rc+2)*(s.rc+2)))=true:=by kernel_rfl
 intro s hs;have:=List.all_eq_true.1 h s hs;simp only[ac₀,af₀]at this;exact⟨this.1,this.2⟩
theorem Lq{s:Sz}(hs:SzOK s)(hf:SzFit s)(i:Nat)(hi:(i:Int)<s.r*s.c)(hB:rI s ((i:Int).tdiv s.c) ((i:Int).tmod s.c)=false):0<=gQ s ((i:Int).tdiv s.c) ((i:Int).tmod s.c)/\gQ s ((i:Int).tdiv s.c) ((i:Int).tmod s.c)<jV s*gu s:=by
 have hmb:=uc hs;obtain⟨r0,r1,c0,c1,rr0,rr1,rc0,rc1,_⟩:=hs;have tm:=kV (a:=i) (m:=s.c) byO byO;have tr:0<=(i:Int).tdiv s.c/\(i:Int).tdiv s.c<s.r:=by
  rw[Int.tdiv_eq_ediv_of_nonneg byO];exact⟨Int.ediv_nonneg byO byO,Int.ediv_lt_of_lt_mul byO hi⟩
 generalize (i:Int).tdiv s.c=row at *;generalize (i:Int).tmod s.c=col at *;have hI:gQ s row col=(row.tdiv (s.rr+2)*s.rr+lr s row-1)*gu s+(col.tdiv (s.rc+2)*s.rc+lc s col-1):=by
  unfold gQ;rw[hB];simp only[ah₀,if_false];omega
 simp only[rI,Bool.or_eq_false_iff,ai₀]at hB;obtain⟨⟨⟨b1,b2⟩,b3⟩,b4⟩:=hB;have x1:=Dn (R:=s.r) (h:=s.rr+2) (rr:=s.rr) (K:=s.r.tdiv (s.rr+2)) (x:=row) hf.hr rfl byO byO byO byO b3 b2;have x2:=Dn (R:=s.c) (h:=s.rc+2) (rr:=s.rc) (K:=s.c.tdiv (s.rc+2)) (x:=col) hf.hc rfl byO byO byO byO b1 b4;have x1':0<=row.tdiv (s.rr+2)*s.rr+lr s row-1/\row.tdiv (s.rr+2)*s.rr+lr s row-1<jV s:=x1;have x2':0<=col.tdiv (s.rc+2)*s.rc+lc s col-1/\col.tdiv (s.rc+2)*s.rc+lc s col-1<gu s:=x2;rw[hI];exact yY x1'.1 x1'.2 x2'.1 x2'.2
theorem aS{s:Sz}(hs:s ∈ szs){R C w:Nat}(hR:jV s=R)(hC:gu s=C)(hw:(s.d+s.k).toNat=w)(hdim:(6<=R/\R<=200)/\6<=C/\C<=200)(h:dA R C w=true):∃gf,SizeOrd s gf:=by
 obtain⟨g,h1,h2⟩:=ym h;refine⟨g,?_,?_,?_,Lq (F8 s hs) (If s hs)⟩
 ·rw[hR,hC];exact h1
 ·rw[hR,hC];exact⟨byO,byO,byO,byO⟩
 ·rw[hR,hC,hw,<-Int.natCast_mul,Int.toNat_natCast];exact h2
structure Grd (H:Heap)(p q:Nat)(R C:Int)(g:G):Prop where
 fp:H.get p=some [.int .i64 R,.int .i64 C,.int .i64 g.next,.slice (some ⟨q,0,some 1⟩) g.cells.length g.cells.length]
 fq:H.get q=some (ah g.cells)
 ne:p≠q
theorem Grd.mono{H H':Heap}{p q:Nat}{R C:Int}{g:G}(h:Grd H p q R C g)(e:Ext H H'):Grd H' p q R C g:=⟨e.get h.fp,e.get h.fq,h.ne⟩
theorem Grd.setq{H:Heap}{p q:Nat}{R C:Int}{g g':G}(h:Grd H p q R C g)(hl:g'.cells.length=g.cells.length)(hn:g'.next=g.next):Grd (H.set q (some (ah g'.cells))) p q R C g':=
 ⟨by rw[aI (fun e=>h.ne e.symm),h.fp,hl,hn],by rw[aF (Heap.get_lt h.fq)],h.ne⟩
open XJWd
theorem SQ:∃gf,SizeOrd (bP 0) gf:=aS (ae byO) (R:=8) (C:=8) (w:=8) rfl rfl rfl byO Rw
theorem SR:∃gf,SizeOrd (bP 1) gf:=aS (ae byO) (R:=10) (C:=10) (w:=12) rfl rfl rfl byO M6
theorem SS:∃gf,SizeOrd (bP 2) gf:=aS (ae byO) (R:=12) (C:=12) (w:=18) rfl rfl rfl byO M9
theorem SU:∃gf,SizeOrd (bP 3) gf:=aS (ae byO) (R:=14) (C:=14) (w:=24) rfl rfl rfl byO Ma
theorem SV:∃gf,SizeOrd (bP 4) gf:=aS (ae byO) (R:=16) (C:=16) (w:=32) rfl rfl rfl byO Md
theorem SW:∃gf,SizeOrd (bP 5) gf:=aS (ae byO) (R:=18) (C:=18) (w:=40) rfl rfl rfl byO Me
theorem SX:∃gf,SizeOrd (bP 6) gf:=aS (ae byO) (R:=20) (C:=20) (w:=50) rfl rfl rfl byO Mf
theorem SY:∃gf,SizeOrd (bP 7) gf:=aS (ae byO) (R:=22) (C:=22) (w:=60) rfl rfl rfl byO Mg
theorem SZ:∃gf,SizeOrd (bP 8) gf:=aS (ae byO) (R:=24) (C:=24) (w:=72) rfl rfl rfl byO Mh
theorem S8:∃gf,SizeOrd (bP 9) gf:=aS (ae byO) (R:=28) (C:=28) (w:=98) rfl rfl rfl byO Mi
theorem QA:∃gf,SizeOrd (bP 10) gf:=aS (ae byO) (R:=32) (C:=32) (w:=128) rfl rfl rfl byO Mj
theorem QB:∃gf,SizeOrd (bP 11) gf:=aS (ae byO) (R:=36) (C:=36) (w:=162) rfl rfl rfl byO Mk
theorem QC:∃gf,SizeOrd (bP 12) gf:=aS (ae byO) (R:=40) (C:=40) (w:=200) rfl rfl rfl byO Ml
theorem QD:∃gf,SizeOrd (bP 13) gf:=aS (ae byO) (R:=44) (C:=44) (w:=242) rfl rfl rfl byO Mm
theorem QE:∃gf,SizeOrd (bP 14) gf:=aS (ae byO) (R:=48) (C:=48) (w:=288) rfl rfl rfl byO Mn
theorem QF:∃gf,SizeOrd (bP 15) gf:=aS (ae byO) (R:=56) (C:=56) (w:=392) rfl rfl rfl byO Mo
theorem QG:∃gf,SizeOrd (bP 16) gf:=aS (ae byO) (R:=64) (C:=64) (w:=512) rfl rfl rfl byO Mp
theorem QH:∃gf,SizeOrd (bP 17) gf:=aS (ae byO) (R:=72) (C:=72) (w:=648) rfl rfl rfl byO Mq
theorem QI:∃gf,SizeOrd (bP 18) gf:=aS (ae byO) (R:=80) (C:=80) (w:=800) rfl rfl rfl byO Mr
theorem QJ:∃gf,SizeOrd (bP 19) gf:=aS (ae byO) (R:=88) (C:=88) (w:=968) rfl rfl rfl byO Ms
theorem QK:∃gf,SizeOrd (bP 20) gf:=aS (ae byO) (R:=96) (C:=96) (w:=1152) rfl rfl rfl byO Mt
theorem QL:∃gf,SizeOrd (bP 21) gf:=aS (ae byO) (R:=108) (C:=108) (w:=1458) rfl rfl rfl byO E2
theorem QM:∃gf,SizeOrd (bP 22) gf:=aS (ae byO) (R:=120) (C:=120) (w:=1800) rfl rfl rfl byO E3
theorem QN:∃gf,SizeOrd (bP 23) gf:=aS (ae byO) (R:=132) (C:=132) (w:=2178) rfl rfl rfl byO E4
theorem QO:∃gf,SizeOrd (bP 24) gf:=aS (ae byO) (R:=6) (C:=16) (w:=12) rfl rfl rfl byO PE
theorem QP:∃gf,SizeOrd (bP 25) gf:=aS (ae byO) (R:=6) (C:=28) (w:=21) rfl rfl rfl byO PF
theorem QR:∃gf,SizeOrd (bP 26) gf:=aS (ae byO) (R:=10) (C:=24) (w:=30) rfl rfl rfl byO M7
theorem QT:∃gf,SizeOrd (bP 27) gf:=aS (ae byO) (R:=10) (C:=32) (w:=40) rfl rfl rfl byO M8
theorem QU:∃gf,SizeOrd (bP 28) gf:=aS (ae byO) (R:=14) (C:=32) (w:=56) rfl rfl rfl byO Mb
theorem QV:∃gf,SizeOrd (bP 29) gf:=aS (ae byO) (R:=14) (C:=44) (w:=77) rfl rfl rfl byO Mc
theorem FW:∀s ∈ szs,∃gf,SizeOrd s gf:=by
 intro s hs;have key:∀i,i<30->∃gf,SizeOrd (bP i) gf:=by
  intro i hi
  match i,hi with
  | 0,_=>exact SQ
  | 1,_=>exact SR
  | 2,_=>exact SS
  | 3,_=>exact SU
  | 4,_=>exact SV
  | 5,_=>exact SW
  | 6,_=>exact SX
  | 7,_=>exact SY
  | 8,_=>exact SZ
  | 9,_=>exact S8
  | 10,_=>exact QA
  | 11,_=>exact QB
  | 12,_=>exact QC
  | 13,_=>exact QD
  | 14,_=>exact QE
  | 15,_=>exact QF
  | 16,_=>exact QG
  | 17,_=>exact QH
  | 18,_=>exact QI
  | 19,_=>exact QJ
  | 20,_=>exact QK
  | 21,_=>exact QL
  | 22,_=>exact QM
  | 23,_=>exact QN
  | 24,_=>exact QO
  | 25,_=>exact QP
  | 26,_=>exact QR
  | 27,_=>exact QT
  | 28,_=>exact QU
  | 29,_=>exact QV
  | n+30,h=>omega
 obtain⟨i,hi,rfl⟩:=List.getElem_of_mem hs;have e:szs[i]=bP i:=by
  unfold bP;rw[au₀,bb₀ hi];rfl
 rw[e];exact key i (by rw[jM]at hi;exact hi)
theorem map_some{R C:Int}(h:Om R C):Dim R C/\∃gf,Bl R C=some gf:=by
 obtain⟨s,hs,rfl,rfl⟩:=h;obtain⟨gf,h⟩:=FW s hs;exact⟨h.dim,gf,h.ord⟩
end Go.Proofs.YtmnlgdpdgjbfgaaGreat
