/- Lemmas. -/
import Derived.Test.YtmnlgdpdgjbfgaaGreatW9
import Derived.Test.YtmnlgdpdgjbfgaaGreatW30
import Derived.Test.YtmnlgdpdgjbfgaaGreatW31
import Derived.Test.YtmnlgdpdgjbfgaaGreatW32
import Derived.Test.YtmnlgdpdgjbfgaaGreatW33
import Derived.Test.YtmnlgdpdgjbfgaaGreatW35
import Derived.Test.YtmnlgdpdgjbfgaaGreatW36
set_option linter.all false
namespace Go.Proofs.YtmnlgdpdgjbfgaaGreat
open Go.Abs
theorem Sp:∃gf,SizeOrd (bx 0) gf:=aQ (bC byO) (R:=8) (C:=8) (w:=8) rfl rfl rfl byO Sg
theorem Sq:∃gf,SizeOrd (bx 1) gf:=aQ (bC byO) (R:=10) (C:=10) (w:=12) rfl rfl rfl byO No
theorem Sr:∃gf,SizeOrd (bx 2) gf:=aQ (bC byO) (R:=12) (C:=12) (w:=18) rfl rfl rfl byO Nr
theorem Ss:∃gf,SizeOrd (bx 3) gf:=aQ (bC byO) (R:=14) (C:=14) (w:=24) rfl rfl rfl byO Ns
theorem St:∃gf,SizeOrd (bx 4) gf:=aQ (bC byO) (R:=16) (C:=16) (w:=32) rfl rfl rfl byO Nv
theorem Su:∃gf,SizeOrd (bx 5) gf:=aQ (bC byO) (R:=18) (C:=18) (w:=40) rfl rfl rfl byO Nw
theorem Sv:∃gf,SizeOrd (bx 6) gf:=aQ (bC byO) (R:=20) (C:=20) (w:=50) rfl rfl rfl byO Nx
theorem Sw:∃gf,SizeOrd (bx 7) gf:=aQ (bC byO) (R:=22) (C:=22) (w:=60) rfl rfl rfl byO Ny
theorem Sx:∃gf,SizeOrd (bx 8) gf:=aQ (bC byO) (R:=24) (C:=24) (w:=72) rfl rfl rfl byO Nz
theorem Sy:∃gf,SizeOrd (bx 9) gf:=aQ (bC byO) (R:=28) (C:=28) (w:=98) rfl rfl rfl byO OA
theorem Qo:∃gf,SizeOrd (bx 10) gf:=aQ (bC byO) (R:=32) (C:=32) (w:=128) rfl rfl rfl byO OB
theorem Qp:∃gf,SizeOrd (bx 11) gf:=aQ (bC byO) (R:=36) (C:=36) (w:=162) rfl rfl rfl byO OC
theorem Qq:∃gf,SizeOrd (bx 12) gf:=aQ (bC byO) (R:=40) (C:=40) (w:=200) rfl rfl rfl byO OD
theorem Qs:∃gf,SizeOrd (bx 13) gf:=aQ (bC byO) (R:=44) (C:=44) (w:=242) rfl rfl rfl byO OE
theorem Qt:∃gf,SizeOrd (bx 14) gf:=aQ (bC byO) (R:=48) (C:=48) (w:=288) rfl rfl rfl byO OF
theorem Qu:∃gf,SizeOrd (bx 15) gf:=aQ (bC byO) (R:=56) (C:=56) (w:=392) rfl rfl rfl byO OG
theorem Qw:∃gf,SizeOrd (bx 16) gf:=aQ (bC byO) (R:=64) (C:=64) (w:=512) rfl rfl rfl byO OH
theorem Qx:∃gf,SizeOrd (bx 17) gf:=aQ (bC byO) (R:=72) (C:=72) (w:=648) rfl rfl rfl byO OI
theorem Qy:∃gf,SizeOrd (bx 18) gf:=aQ (bC byO) (R:=80) (C:=80) (w:=800) rfl rfl rfl byO OJ
theorem Qz:∃gf,SizeOrd (bx 19) gf:=aQ (bC byO) (R:=88) (C:=88) (w:=968) rfl rfl rfl byO OK
theorem RA:∃gf,SizeOrd (bx 20) gf:=aQ (bC byO) (R:=96) (C:=96) (w:=1152) rfl rfl rfl byO OM
theorem RB:∃gf,SizeOrd (bx 21) gf:=aQ (bC byO) (R:=108) (C:=108) (w:=1458) rfl rfl rfl byO Fy
theorem RC:∃gf,SizeOrd (bx 22) gf:=aQ (bC byO) (R:=120) (C:=120) (w:=1800) rfl rfl rfl byO Fz
theorem RD:∃gf,SizeOrd (bx 23) gf:=aQ (bC byO) (R:=132) (C:=132) (w:=2178) rfl rfl rfl byO GA
theorem RF:∃gf,SizeOrd (bx 24) gf:=aQ (bC byO) (R:=6) (C:=16) (w:=12) rfl rfl rfl byO Q2
theorem RG:∃gf,SizeOrd (bx 25) gf:=aQ (bC byO) (R:=6) (C:=28) (w:=21) rfl rfl rfl byO Q3
theorem RI:∃gf,SizeOrd (bx 26) gf:=aQ (bC byO) (R:=10) (C:=24) (w:=30) rfl rfl rfl byO Np
theorem RJ:∃gf,SizeOrd (bx 27) gf:=aQ (bC byO) (R:=10) (C:=32) (w:=40) rfl rfl rfl byO Nq
theorem RK:∃gf,SizeOrd (bx 28) gf:=aQ (bC byO) (R:=14) (C:=32) (w:=56) rfl rfl rfl byO Nt
theorem RL:∃gf,SizeOrd (bx 29) gf:=aQ (bC byO) (R:=14) (C:=44) (w:=77) rfl rfl rfl byO Nu
theorem AO:∀s ∈ szs,∃gf,SizeOrd s gf:=by
 intro s hs;have key:∀i,i<30->∃gf,SizeOrd (bx i) gf:=by
  intro i hi
  match i,hi with
  | 0,_=>exact Sp
  | 1,_=>exact Sq
  | 2,_=>exact Sr
  | 3,_=>exact Ss
  | 4,_=>exact St
  | 5,_=>exact Su
  | 6,_=>exact Sv
  | 7,_=>exact Sw
  | 8,_=>exact Sx
  | 9,_=>exact Sy
  | 10,_=>exact Qo
  | 11,_=>exact Qp
  | 12,_=>exact Qq
  | 13,_=>exact Qs
  | 14,_=>exact Qt
  | 15,_=>exact Qu
  | 16,_=>exact Qw
  | 17,_=>exact Qx
  | 18,_=>exact Qy
  | 19,_=>exact Qz
  | 20,_=>exact RA
  | 21,_=>exact RB
  | 22,_=>exact RC
  | 23,_=>exact RD
  | 24,_=>exact RF
  | 25,_=>exact RG
  | 26,_=>exact RI
  | 27,_=>exact RJ
  | 28,_=>exact RK
  | 29,_=>exact RL
  | n+30,h=>omega
 obtain⟨i,hi,rfl⟩:=List.getElem_of_mem hs;have e:szs[i]=bx i:=by
  unfold bx;rw[au₀,bc₀ hi];rfl
 rw[e];exact key i (by rw[gN]at hi;exact hi)
theorem map_some{R C:Int}(h:QM R C):Dim R C/\∃gf,Cg R C=some gf:=by
 obtain⟨s,hs,rfl,rfl⟩:=h;obtain⟨gf,h⟩:=AO s hs;exact⟨h.dim,gf,h.ord⟩
open XJWfit
theorem Hk{w n:Int}(h0:0<=w)(h1:w<=255)(hn:0<=n):Br w n=decide ((w.fdiv (2^(min (7-n.tmod 8).toNat IntKind.i64.bits))).tmod 2=1):=by
 unfold Br;have hp:(0:Int)<2^(min (7-n.tmod 8).toNat IntKind.i64.bits):=Int.pow_pos byO;rw[Int.fdiv_eq_ediv_of_nonneg _ byO];have h3:0<=w/2^(min (7-n.tmod 8).toNat IntKind.i64.bits):=Int.ediv_nonneg h0 byO;have h4:w/2^(min (7-n.tmod 8).toNat IntKind.i64.bits)<=w:=Int.ediv_le_self _ h0;generalize w/2^(min (7-n.tmod 8).toNat IntKind.i64.bits)=x at *;obtain⟨k,rfl⟩:=Int.eq_ofNat_of_zero_le h3;have hk:k<=255:=byO;rw[Int.tmod_eq_emod_of_nonneg h3];have e:(BitVec.ofInt IntKind.i64.bits (k:Int) &&& BitVec.ofInt IntKind.i64.bits 1).toNat=k%2:=by
  show(BitVec.ofInt 64 (k:Int) &&& BitVec.ofInt 64 1).toNat=k%2;rw[BitVec.toNat_and,BitVec.ofInt_natCast,show BitVec.ofInt 64 1=BitVec.ofNat 64 1 by rfl,BitVec.toNat_ofNat,BitVec.toNat_ofNat,Nat.mod_eq_of_lt (show k<2^64 by omega)];exact Nat.and_one_is_mod k
 rw[e,eV byO byO];congr 1
set_option maxRecDepth 20000
theorem OX{C x y:Nat}(hx:x<C):((y*C+x:Nat):Int).tdiv (C:Int)=y/\((y*C+x:Nat):Int).tmod (C:Int)=x:=by
 rw[Int.tdiv_eq_ediv_of_nonneg byO,Int.tmod_eq_emod_of_nonneg byO];have h1:(y*C+x)/C=y:=by rw[bb₀,Nat.mul_add_div byO,Nat.div_eq_of_lt hx];rfl
 have h2:(y*C+x)%C=x:=by rw[bb₀,Nat.mul_add_mod,Nat.mod_eq_of_lt hx]
 exact⟨by rw[<-Int.natCast_ediv,h1],by rw[<-Int.natCast_emod,h2]⟩
theorem DO{ws:List Int}(h:du ws=false){i:Nat}(hi:i<ws.length):0<=ws.getD i 0/\ws.getD i 0<=255:=by
 have:∀w ∈ ws,¬ (w<0\/255<w):=by
  intro w hw hc;have:du ws=true:=List.any_eq_true.2 ⟨w,hw,by simpa using hc⟩;rw[h]at this;cases this
 have:=this (ws.getD i 0) (by rw[au₀,bc₀ hi];exact List.getElem_mem hi);omega
end Go.Proofs.YtmnlgdpdgjbfgaaGreat
