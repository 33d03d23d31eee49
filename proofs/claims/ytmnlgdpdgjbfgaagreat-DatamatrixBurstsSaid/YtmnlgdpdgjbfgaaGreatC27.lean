/- DatamatrixBursts returns true for every size, data and stretch of codewords: Correct returns the data. No conditions. -/
import Derived.Test.YtmnlgdpdgjbfgaaGreatC24
set_option linter.unusedVariables false
set_option linter.unusedSimpArgs false
set_option linter.unusedSectionVars false
namespace Go.Proofs.YtmnlgdpdgjbfgaaGreat
open Go.Abs Go.RS
set_option linter.unusedSimpArgs false
set_option linter.unusedVariables false
set_option maxRecDepth 20000
set_option maxHeartbeats 1000000 in
theorem lawBur{H:Heap}{k:Nat}{vp:Value}{p:List Int}{at' by':Int}
  (hk:k≤255) (hp:SlY H vp p) (hpr:∀x ∈ p,0≤x∧x≤255) (hpl:p.length≤9223372036854775807) (hat:0≤at'∧at'≤65535) (hby:0≤by'∧by'≤255) :
  Ev cp H.length 11 [.int .u8 (k:Nat),vp,.int .u16 at',.int .u8 by'] H (fun v _=>v=.bool true):=by
 obtain⟨af,rfl⟩:∃af:Nat,at'=(af:Int):=⟨_,(Int.toNat_of_nonneg hat.1).symm⟩
 obtain⟨y,rfl⟩:∃y:Nat,by'=(y:Int):=⟨_,(Int.toNat_of_nonneg hby.1).symm⟩
 refine st11 ?_;unfold bd11 cf11;simp only[kB,ctlB]
 repeat' ((first|refine xSYe ?_|refine xOYe rfl ?_);(try simp only[ctlB]))
 refine xHYe ?_
 refine wpH_call0 (sizeOfP (k:=k) hk (Nat.le_refl _)) ?_
 rintro r H1 ⟨hx1,rfl⟩
 have hi:k%30<30:=Nat.mod_lt _ (by decide)
 generalize k%30=i at *
 have hz:=dz_ok hi
 have hP:=fun {H':Heap} {v:Value} {e:List (El F1)} (h1:SlI H' v (valI e)) (h2:e.length=(dz i).d) (h3:H.length≤H'.length)=>protD (lo:=H.length) hi h1 h2 h3
 have hC:=fun {H':Heap} {v:Value} {l:List Int} (h1:SlI H' v l) (h2:l.length=(dz i).d+(dz i).c) (h3:inF 256 l=true) (h4:H.length≤H'.length)=>corrD (lo:=H.length) hi h1 h2 h3 h4
 generalize dz i=zz at *
 obtain⟨T,hTT⟩:∃T:Nat,zz.d+zz.c=T:=⟨_,rfl⟩
 rw[hTT]at hP hC
 replace hTT:False∨_:=.inr hTT
 have n1:=hz.n1
 have n2:=hz.n2
 have dn:=hz.dn
 have d2:=hz.d2
 have c2:=hz.c2
 have k1:=hz.k1
 have k2:=hz.k2
 have t1:zz.d<T∧T≤2178:=by
  have:=hTT.resolve_left id
  have:=hz.cn
  have:zz.n*1≤zz.n*zz.ck:=Nat.mul_le_mul_left _ k1
  omega
 have hdiv:(zz.c:Int).tdiv (zz.n:Int)=(zz.ck:Nat):=(Int.ofNat_tdiv zz.c zz.n).symm
 have hdiv2:(zz.ck:Int).tdiv 2=((zz.ck/2:Nat):Int):=(Int.ofNat_tdiv zz.ck 2).symm
 have hh2:zz.ck/2≤34:=by omega
 have hmul:(zz.n:Int)*((zz.ck/2:Nat):Int)=((zz.n*(zz.ck/2):Nat):Int):=(Int.natCast_mul _ _).symm
 have hM:zz.n*(zz.ck/2)≤10*34:=Nat.mul_le_mul n2 hh2
 obtain⟨h2,hh⟩:∃h2:Nat,zz.ck/2=h2:=⟨_,rfl⟩
 obtain⟨M,hMM⟩:∃M:Nat,zz.n*(zz.ck/2)=M:=⟨_,rfl⟩
 rw[hMM]at hmul hM
 rw[hh]at hdiv2 hmul hh2 hMM
 have hh3:2*h2≤zz.ck:=by omega
 replace hMM:False∨_:=.inr hMM
 clear hh
 unfold Dz.sz Sz.val at *
 dsimp only at hP hC
 have hl1:=hx1.1
 (try simp only[ctlB])
 repeat' ((first|refine xSYe ?_|refine xOYe rfl ?_);(try simp only[ctlB]))
 generalize hG:H1++_=G at *
 obtain⟨g0,hxG⟩:=box_facts hG
 clear hG
 have hx1:=hx1.trans hxG
 have hlG:=hx1.1
 refine xHYe ?_
 refine wpH_call0 (numsP (hp.mono hx1) hpr hpl (by omega) hlG) ?_
 rintro r H2 ⟨hx2,e,he,hvd⟩
 have g0:=hx2.get g0
 have hx2:=hx1.trans hx2
 have hl2:=hx2.1
 obtain⟨ad,cd,e0⟩:=hvd.len
 have hvd0:=hvd
 rw[valI_len,he]at e0
 subst e0
 replace he:False∨_:=.inr he
 clear hvd hxG hp
 (try simp only[ctlB])
 repeat' ((first|refine xSYe ?_|refine xOYe rfl ?_);(try simp only[ctlB]))
 refine xHYe ?_
 refine wpH_call0 (hP hvd0 (he.resolve_left id) hl2) ?_
 rintro r H3 ⟨hx3,j,hj,rfl,hg3,hie⟩
 have g0:=hx3.get g0
 have hvd0:=hvd0.mono hx3
 have hx3:=hx2.trans hx3
 have hl3:=hx3.1
 have hj3:=Heap.get_lt hg3
 have hq3:=Heap.get_lt g0
 clear hP hx2 hx1
 generalize hwle:ilv zz.n (zz.W e) T=wl at *
 have hwl:wl.length=T:=by rw[←hwle];exact ilv_len _ _ _
 have hwb:∀i,i<T→0≤wl.getD i 0∧wl.getD i 0≤255:=fun i hi=>by rw[←hwle];exact ilv_by hi
 replace hwle:False∨_:=.inr hwle
 have hwi:SlI H3 (.slice (some ⟨j,0,none⟩) T T) wl:=Sl.whole hg3 hwl
 (try simp only[ctlB])
 repeat' ((first|refine xSYe ?_|refine xOYe rfl ?_);(try simp only[ctlB]))
 refine xCYe (fun h=>?_) (fun h=>?_)
 ·exfalso;simp at h;omega
 clear h
 have q1:=(Int.ofNat_tmod af T).symm
 have hf:af%T<T:=Nat.mod_lt _ (by omega)
 generalize af%T=f at *
 (try simp only[ctlB])
 ((first|refine xSYe ?_|refine xOYe rfl ?_);(try simp only[ctlB]))
 ((first|refine xSYe ?_|refine xOYe rfl ?_);(try simp only[ctlB]))
 ((first|refine xSYe ?_|refine xOYe rfl ?_);(try simp only[ctlB]))
 refine xHYe ?_
 refine own_appI (A:=[]) (base:=H3.length) (Own.nil (b:=H3.length) (Nat.le_refl _)) (by omega) (Nat.le_refl _) hwi (by omega) (by simp only[List.length_nil];omega) ?_
 intro v9 H4 o9 hk4 hl4
 rw[List.nil_append]at o9
 have hx4:Ext H3 H4:=⟨by omega,fun i hi=>hk4.eq i hi (by omega)⟩
 obtain⟨rfl,g9⟩:=own_realI o9 (by omega)
 have g0:=hx4.get g0
 have hx34:=hx4
 have hx4:=hx3.trans hx4
 rw[hwl]
 replace hl4:H3.length+1≤H4.length∧H4.length≤H3.length+1:=by omega
 clear o9 hk4 hwi q1 hg3
 have hq0:=Heap.get_lt g0
 have hl04:=hx4.1
 have hz0:=burL_zero (wl:=wl) (f:=f) (y:=y) (fun i hi=>(hwb i (by omega)).1)
 rw[←hz0]at g9
 clear hz0
 have hfM:((f:Nat):Int)+((M:Nat):Int)=((f+M:Nat):Int):=by omega
 (try simp only[ctlB])
 repeat' ((first|refine xSYe ?_|refine xOYe rfl ?_);(try simp only[ctlB]))
 have hbl:=fun j=>burL_len wl f y j
 rw[hwl]at hbl
 refine aw_for (fun k S H'=>Keep H3.length H4 H'∧Heap.get H' H3.length=some (intL (burL wl f y k))∧∃(z:Nat→Value),S=[z 0,z 1,z 2,.int .u8 (y:Nat),z 4,.pointer (some ⟨H1.length,0,none⟩),.slice ad zz.d cd,z 7,z 8,.int .i64 (M:Nat),.int .i64 (f:Nat),.slice (some ⟨H3.length,0,some 1⟩) T T,.int .i64 (f+k:Nat),z 13,z 14,z 15,z 16,z 17,z 18,z 19,z 20,z 21,z 22,z 23]) (min M (T-f)) ?_ ?_ ?_ ?_
 ·exact⟨keep_ext (Ext.refl _),g9,exZGc rfl⟩
 ·rintro k S H' hk ⟨k1,-,z,rfl⟩
  exact⟨_,xEYe,by simp;omega⟩
 ·clear g9
  rintro k S H7 hk ⟨kk1,g9,z,rfl⟩
  have hat2:=burL_at (wl:=wl) (f:=f) (y:=y) (j:=k) (i:=f+k) (by omega)
  rw[if_neg (by omega)]at hat2
  have hset:=burL_set (wl:=wl) (f:=f) (y:=y) (j:=k) (by omega)
  have hwk:=hwb (f+k) (by omega)
  have hlk:=hbl k
  have hlg9:=Heap.get_lt g9
  obtain⟨o,ho⟩:∃o:Nat,wl.getD (f+k) 0=(o:Int):=⟨_,(Int.toNat_of_nonneg hwk.1).symm⟩
  rw[ho]at hat2 hset hwk
  rw[Int.toNat_natCast]at hat2 hset
  have hxr:=xor_int (a:=o) (b:=y) (by omega) (by omega)
  have hxb:o ^^^ y<256:=Nat.xor_lt_two_pow (n:=8) (by omega) (by omega)
  have hkk:Keep H3.length H7 (H7.set H3.length (some (intL (burL wl f y (k+1))))):=keep_set (Ext.refl _) _ _
  clear ho
  generalize o ^^^ y=n at *
  generalize burL wl f y (k+1)=B2 at *
  generalize burL wl f y k=B1 at *
  generalize hfk:f+k=fk at *
  (try simp only[ctlB])
  repeat' ((first|refine xSYe ?_|refine xOYe rfl ?_);(try simp only[ctlB]))
  refine⟨keep_trans kk1 hkk,by rw[get_set_self (by omega)],?_⟩
  rw[show f+(k+1)=fk+1 by omega]
  exact exZGc (by first|rfl|(simp only[Int.natCast_add,Int.natCast_one];rfl)|simp only[Int.natCast_add,Int.natCast_one])
 ·clear g9
  rintro S H7 ⟨kk1,g9,z,rfl⟩
  have hx7:=kk1.ext hx4 (by omega)
  have g0:=kk1.get g0 (by omega)
  have hvd0:=hvd0.mono (kk1.ext hx34 (Nat.le_refl _))
  have hl7:=hx7.1
  generalize hN:min M (T-f)=N at *
  have hol:=hbl N
  have hby2:∀i,i<T→0≤(burL wl f y N).getD i 0∧(burL wl f y N).getD i 0≤255:=fun i hi=>by
   have h1:=hwb i hi
   rw[burL_at (by omega)]
   have h2:(wl.getD i 0).toNat ^^^ y<256:=Nat.xor_lt_two_pow (n:=8) (by omega) (by omega)
   split<;>omega
  have hdf:∀x,x<zz.n→dfX zz.n wl (burL wl f y N) x≤h2:=fun x hx=>burst (f:=f) (by omega) (fun j hj hno=>by
   rw[hMM.resolve_left id]at hno
   rw[burL_at hj,if_neg (by omega)]
   exact Int.toNat_of_nonneg (hwb j (by omega)).1) hx
  have hT:=hTT.resolve_left id
  have hfix:=spoil_fix hz (he.resolve_left id) hie (out:=burL wl f y N) (by omega) (fun i hi=>hby2 i (by omega)) (fun x hx=>by
   rw[hT,hwle.resolve_left id]
   have:=hdf x hx;omega)
  obtain⟨hok,-,hdat⟩:=hfix
  have hin:=inF_by (l:=burL wl f y N) (fun i hi=>hby2 i (by omega))
  have hve:(valI e).length≤zz.d∧zz.d≤(valI e).length:=by
   have:=valI_len e
   have:=he.resolve_left id
   omega
  clear hby2 hdf hie hwle hTT hT hbl hz
  generalize burL wl f y N=out at *
  (try simp only[ctlB])
  refine xHYe ?_
  refine wpH_call0 (hC (Sl.whole (enc:=Value.int .i64) (l:=out) g9 (by omega)) (by omega) hin (by omega)) ?_
  rintro r H8 ⟨hx8,-,hr⟩
  obtain⟨b,hb,rfl,hgb⟩:=hr hok
  rw[hdat]at hgb
  have hvd0:=hvd0.mono hx8
  have hx8:=hx7.trans hx8
  have hl8:=hx8.1
  clear hr hC hok hdat hin g9 g0
  generalize sumT (nch zz out) zz.n=D at *
  (try simp only[ctlB])
  repeat' ((first|refine xSYe ?_|refine xOYe rfl ?_);(try simp only[ctlB]))
  refine xTYo ?_
  refine wpH_call0 (same_eq (Sl.whole (enc:=Value.int .i64) (l:=valI e) hgb (by omega)) hvd0 (by omega) (by omega) rfl) ?_
  rintro r _ ⟨rfl,rfl⟩
  (try simp only[ctlB])
  refine xTYo ?_
  refine wpH_call0 (exH hl8) ?_
  rintro r H9 ⟨-,rfl⟩
  (try simp only[ctlB])
  repeat' ((first|refine xSYe ?_|refine xOYe rfl ?_);(try simp only[ctlB]))
  refine xRYe ?_
  rfl
end Go.Proofs.YtmnlgdpdgjbfgaaGreat
namespace Go.Proofs.YtmnlgdpdgjbfgaaGreat
open Go.Abs
namespace datamatrixBursts
open Go.ChangeShapes Go.WideShapes Go.ChangeAt Go.RowKit
theorem fnE(X:Type)(ds:List (DataW X))(h:ds.length=4):Rows.datamatrixBurstsSpec.fn X ds=⟨[.lit (.bool true)],ds,[]⟩:=by
 match ds,h with
 | [d1,d2,d3,d4],_=>rfl
theorem lawAll(H:Heap)(vs:List Value)(h:HasArgs maxLen H [.int .u8,.sl (.int .u8),.int .u16,.int .u8] vs):Ev cp H.length 11 vs H (fun v _=>v=.bool true):=by
 simp only[HasArgs]at h
 obtain⟨a1,r1,rfl,h1,a2,r2,rfl,h2,a3,r3,rfl,h3,a4,r4,rfl,h4,rfl⟩:=h
 simp only[HasArg]at h1 h2 h3 h4
 obtain⟨k0,e1,hk0⟩:=has_k h1
 cases e1
 obtain⟨k,rfl,hk⟩:=nat8 hk0
 obtain⟨aP,p,cP,e2,p1,p2,p3⟩:=sl_k h2
 cases e2
 obtain⟨at',e3,q⟩:=has_k h3
 cases e3
 obtain⟨by',e4,y⟩:=has_k h4
 cases e4
 exact lawBur hk p1 (u8_rg p3) (ml p2) q y
set_option maxRecDepth 100000 in
theorem lifted(os:Os)(started:os.Started)(H:Type)(enc:TypeId×Value→H) :
  ReturnsInHanded {} Tryz.checked os 11 .any (Rows.datamatrixBurstsSpec.pre6 enc Tryz.prog Tryz.f11 Rows.datamatrixBurstsRow.domain false) (Rows.datamatrixBurstsSpec.post enc Tryz.prog Tryz.f11 false true false false):=by
 refine returnsInHanded_of_change (C:=Tryz.checked) own started (by kernel_rfl) Tryz.func11
  (ChangeSpec.witness6 (enc:=enc) (C:=Tryz.checked) false ⟨#[],#[.int .u8 0,.slice none 0 0,.int .u16 0,.int .u8 0],[]⟩ 8 (by kernel_rfl) (by kernel_rfl) (by kernel_rfl) (by kernel_rfl)) ?_
 intro W base args ds gs before hval hW _ _
 exact law_contract (P:=Tryz.prog) (fn:=Tryz.f11) (s:=Rows.datamatrixBurstsSpec) okAll (d:=8) (tys:=[.int .u8,.sl (.int .u8),.int .u16,.int .u8]) (by kernel_rfl) (by kernel_rfl) (by kernel_rfl) Tryz.underlying4 laidOut (by kernel_rfl) rfl fnE lawAll W (by rw[noGlobals];omega) base args ds gs before hval hW (fun x _=>.inl (Nat.le_refl _))
theorem over:Rows.datamatrixBurstsRow.holds Tryz.pinned (OpenSpec.ofChange Rows.datamatrixBurstsSpec):=
 OpenClaim.holds_of_wide 11 Tryz.f11 rfl rfl rfl rfl rfl rfl rfl ⟨rfl,rfl,rfl,rfl,rfl⟩ rfl rfl rfl rfl rfl (by kernel_rfl) Tryz.func11 (by kernel_rfl)
  (of_decide_eq_true (by kernel_rfl)) (by unfold Func.isWrapper;first|(rw[if_pos (by decide +kernel)];kernel_rfl)|(rw[if_neg (by decide +kernel)];exact⟨rfl,rfl⟩))
  (fun os started H enc _=>lifted os started H enc)
theorem proved:Rows.DatamatrixBurstsSaid:=over
#print axioms proved
end datamatrixBursts
end Go.Proofs.YtmnlgdpdgjbfgaaGreat
