/- DatamatrixDetects returns true for every size and all words: what Correct returns is within the capacity. No conditions. -/
import Derived.Test.YtmnlgdpdgjbfgaaGreatC24
set_option linter.unusedVariables false
set_option linter.unusedSimpArgs false
set_option linter.unusedSectionVars false
namespace Go.Proofs.YtmnlgdpdgjbfgaaGreat
open Go.Abs Go.RS
set_option linter.unusedSimpArgs false
set_option linter.unusedVariables false
set_option maxRecDepth 20000
def dfK(wl rl:List Int)(k:Nat):Nat:=(sel (fun j=>decide (wl.getD j 0≠rl.getD j 0)) k).length
theorem dfK_succ(wl rl:List Int)(k:Nat):dfK wl rl (k+1)=dfK wl rl k+if wl.getD k 0≠rl.getD k 0 then 1 else 0:=by
 unfold dfK
 rw[sel_succ,List.length_append]
 by_cases h:wl.getD k 0≠rl.getD k 0
 ·rw[if_pos (decide_eq_true h),if_pos h];rfl
 ·rw[if_neg (fun hh=>h (of_decide_eq_true hh)),if_neg h];rfl
theorem dfK_le(wl rl:List Int):∀k,dfK wl rl k≤k
 | 0=>Nat.le_refl _
 | k+1=>by
  rw[dfK_succ]
  have:=dfK_le wl rl k
  split<;>omega
theorem lawDtc{H:Heap}{k:Nat}{vp:Value}{p:List Int}(hk:k≤255)(hp:SlY H vp p)(hpr:∀x ∈ p,0≤x∧x≤255)(hpl:p.length≤9223372036854775807):Ev cp H.length 9 [.int .u8 (k:Nat),vp] H (fun v _=>v=.bool true):=by
 have q1:((k:Nat):Int).tmod 9=((k%9:Nat):Int):=(Int.ofNat_tmod k 9).symm
 have q2:k%9<9:=Nat.mod_lt _ (by decide)
 refine st9 ?_;unfold bd9 cf9;simp only[kB,ctlB]
 generalize k%9=k9 at *
 repeat' ((first|refine xSYe ?_|refine xOYe rfl ?_);(try simp only[ctlB]))
 refine xHYe ?_
 refine wpH_call0 (sizeOfP (k:=k9) (by omega) (Nat.le_refl _)) ?_
 rintro r H1 ⟨hx1,rfl⟩
 have hi:k9%30<30:=Nat.mod_lt _ (by decide)
 generalize k9%30=i at *
 have hz:=dz_ok hi
 have hP:=fun {H':Heap} {v:Value} {e:List (El F1)} (h1:SlI H' v (valI e)) (h2:e.length=(dz i).d) (h3:H.length≤H'.length)=>protD (lo:=H.length) hi h1 h2 h3
 have hC:=fun {H':Heap} {v:Value} {l:List Int} (h1:SlI H' v l) (h2:l.length=(dz i).d+(dz i).c) (h3:inF 256 l=true) (h4:H.length≤H'.length)=>corrD (lo:=H.length) hi h1 h2 h3 h4
 generalize dz i=zz at *
 obtain⟨T,hTT⟩:∃T:Nat,zz.d+zz.c=T:=⟨_,rfl⟩
 rw[hTT]at hP hC
 have hTi:(zz.d:Int)+(zz.c:Int)=((T:Nat):Int):=by omega
 replace hTT:False∨_:=.inr hTT
 have n1:=hz.n1
 have n2:=hz.n2
 have dn:=hz.dn
 have d2:=hz.d2
 have c2:=hz.c2
 have k1:=hz.k1
 have k2:=hz.k2
 have t1:zz.d<T∧T≤2178:=by
  have:=hTT.resolve_left id
  have:=hz.cn
  have:zz.n*1≤zz.n*zz.ck:=Nat.mul_le_mul_left _ k1
  omega
 unfold Dz.sz Sz.val at *
 dsimp only at hP hC
 have hl1:=hx1.1
 clear q1 q2
 (try simp only[ctlB])
 repeat' ((first|refine xSYe ?_|refine xOYe rfl ?_);(try simp only[ctlB]))
 generalize hG:H1++_=G at *
 obtain⟨g0,hxG⟩:=box_facts hG
 clear hG
 have hx1:=hx1.trans hxG
 have hlG:=hx1.1
 refine xHYe ?_
 refine wpH_call0 (numsP (hp.mono hx1) hpr hpl (by omega) hlG) ?_
 rintro r H2 ⟨hx2,dw,hdl,hvd⟩
 have g0:=hx2.get g0
 have hx2:=hx1.trans hx2
 have hl2:=hx2.1
 obtain⟨aw,cw,e0⟩:=hvd.len
 have hvw:=hvd
 rw[valI_len,hdl]at e0
 subst e0
 have hwl:(valI dw).length=T:=by rw[valI_len,hdl]
 have hin:inF 256 (valI dw)=true:=inF_valI (f:=F1) dw
 generalize valI dw=wl at *
 clear hvd hxG hp hdl hTi
 replace hwl:False∨_:=.inr hwl
 (try simp only[ctlB])
 repeat' ((first|refine xSYe ?_|refine xOYe rfl ?_);(try simp only[ctlB]))
 refine xHYe ?_
 refine wpH_call0 (hC hvw (hwl.resolve_left id) hin hl2) ?_
 rintro r H3 ⟨hx3,hbad,hgood⟩
 have g0:=hx3.get g0
 have hvw:=hvw.mono hx3
 have hx3:=hx2.trans hx3
 have hl3:=hx3.1
 by_cases hok:∀x,x<zz.n→OkX zz wl x
 case neg=>
  rw[hbad hok]
  clear hbad hgood
  (try simp only[ctlB])
  repeat' ((first|refine xSYe ?_|refine xOYe rfl ?_);(try simp only[ctlB]))
  refine xCYe (fun h=>?_) (fun h=>?_)
  case refine_2=>simp at h
  clear h
  (try simp only[ctlB])
  refine xTYo ?_
  refine wpH_call0 (exH hl3) ?_
  rintro r H9 ⟨-,rfl⟩
  (try simp only[ctlB])
  repeat' ((first|refine xSYe ?_|refine xOYe rfl ?_);(try simp only[ctlB]))
  refine xRYe ?_
  rfl
 obtain⟨b,hb,rfl,hgb⟩:=hgood hok
 clear hbad hgood hC
 obtain⟨e,hve,hel,hdf,hle⟩:=det_fix hz (by rw[hTT.resolve_left id];exact hwl.resolve_left id) hin hok
 rw[←hve]at hgb
 rw[hTT.resolve_left id]at hdf
 clear hve hok hin
 generalize sumT (nch zz wl) zz.n=al at *
 have hvl:(valI e).length=zz.d:=by rw[valI_len,hel]
 (try simp only[ctlB])
 repeat' ((first|refine xSYe ?_|refine xOYe rfl ?_);(try simp only[ctlB]))
 refine xCYe (fun h=>?_) (fun h=>?_)
 ·simp at h
 clear h
 (try simp only[ctlB])
 refine xHYe ?_
 refine wpH_call0 (hP (Sl.whole (enc:=Value.int .i64) hgb hvl) hel hl3) ?_
 rintro r H4 ⟨hx4,j,hj,rfl,hg4,-⟩
 have g0:=hx4.get g0
 have hvw:=hvw.mono hx4
 have hx4:=hx3.trans hx4
 have hl4:=hx4.1
 have hrl:(ilv zz.n (zz.W e) T).length=T:=ilv_len _ _ _
 generalize ilv zz.n (zz.W e) T=rl at *
 have hgi:=intL_len rl
 rw[hrl]at hgi
 have hdt:dfK wl rl T=al:=by rw[←hrl];exact hdf
 clear hdf hP hvl hel hgb hrl
 replace hdt:False∨_:=.inr hdt
 (try simp only[ctlB])
 repeat' ((first|refine xSYe ?_|refine xOYe rfl ?_);(try simp only[ctlB]))
 refine xCYe (fun h=>?_) (fun h=>?_)
 ·exfalso;simp at h
 clear h
 (try simp only[ctlB])
 repeat' ((first|refine xSYe ?_|refine xOYe rfl ?_);(try simp only[ctlB]))
 refine aw_for (fun k S H'=>H4=H'∧∃(z:Nat→Value),S=[z 0,z 1,z 2,.pointer (some ⟨H1.length,0,none⟩),.slice aw T cw,z 5,.int .i64 (al:Nat),z 7,.slice (some ⟨j,0,none⟩) T T,z 9,.int .i64 (dfK wl rl k:Nat),.int .i64 (k:Nat),z 12,z 13,z 14,z 15,z 16,z 17,z 18,z 19]) T ?_ ?_ ?_ ?_
 ·exact⟨rfl,exZGc rfl⟩
 ·rintro k S H' hk ⟨rfl,z,rfl⟩
  exact⟨_,xEYe,by simp⟩
 ·rintro k S H' hk ⟨rfl,z,rfl⟩
  obtain⟨xb,xo,xsp,xc,xs,e1,gx,fx,_⟩:=hvw.els 0 (by have:=hwl.resolve_left id;omega)
  rw[hwl.resolve_left id]at e1 fx
  cases e1
  have kx:=fx k hk
  have ky:=intL_at (l:=rl) (i:=k) (by rw[←intL_len];omega)
  have hds:=dfK_succ wl rl k
  have hdl:=dfK_le wl rl k
  clear fx
  generalize wl.getD k 0=x1 at *
  generalize rl.getD k 0=x2 at *
  generalize dfK wl rl (k+1)=D2 at *
  generalize dfK wl rl k=D at *
  subst hds
  (try simp only[ctlB])
  by_cases hne:x1≠x2
  ·simp only[if_pos hne]
   refine xCYe (fun h=>?_) (fun h=>?_)
   case refine_2=>exfalso;simp at h<;>omega
   clear h
   (try simp only[ctlB])
   repeat' ((first|refine xSYe ?_|refine xOYe rfl ?_);(try simp only[ctlB]))
   exact⟨by trivial,exZGc (by first|rfl|(simp only[Int.natCast_add,Int.natCast_one];rfl)|simp only[Int.natCast_add,Int.natCast_one])⟩
  ·simp only[if_neg hne]
   refine xCYe (fun h=>?_) (fun h=>?_)
   ·exfalso;simp at h<;>omega
   clear h
   (try simp only[ctlB])
   repeat' ((first|refine xSYe ?_|refine xOYe rfl ?_);(try simp only[ctlB]))
   exact⟨by trivial,exZGc (by first|rfl|(simp only[Int.natCast_add,Int.natCast_one];rfl)|simp only[Int.natCast_add,Int.natCast_one])⟩
 ·rintro S H' ⟨rfl,z,rfl⟩
  rw[hdt.resolve_left id]
  (try simp only[ctlB])
  refine xTYo ?_
  refine wpH_call0 (exH hl4) ?_
  rintro r H9 ⟨-,rfl⟩
  (try simp only[ctlB])
  repeat' ((first|refine xSYe ?_|refine xOYe rfl ?_);(try simp only[ctlB]))
  refine xRYe ?_
  rw[decide_eq_true (by omega)];rfl
end Go.Proofs.YtmnlgdpdgjbfgaaGreat
namespace Go.Proofs.YtmnlgdpdgjbfgaaGreat
open Go.Abs
namespace datamatrixDetects
open Go.ChangeShapes Go.WideShapes Go.ChangeAt Go.RowKit
theorem fnE(X:Type)(ds:List (DataW X))(h:ds.length=2):Rows.datamatrixDetectsSpec.fn X ds=⟨[.lit (.bool true)],ds,[]⟩:=by
 match ds,h with
 | [d1,d2],_=>rfl
theorem lawAll(H:Heap)(vs:List Value)(h:HasArgs maxLen H [.int .u8,.sl (.int .u8)] vs):Ev cp H.length 9 vs H (fun v _=>v=.bool true):=by
 simp only[HasArgs]at h
 obtain⟨a1,r1,rfl,h1,a2,r2,rfl,h2,rfl⟩:=h
 simp only[HasArg]at h1 h2
 obtain⟨k0,e1,hk0⟩:=has_k h1
 cases e1
 obtain⟨k,rfl,hk⟩:=nat8 hk0
 obtain⟨aP,p,cP,e2,p1,p2,p3⟩:=sl_k h2
 cases e2
 exact lawDtc hk p1 (u8_rg p3) (ml p2)
set_option maxRecDepth 100000 in
theorem lifted(os:Os)(started:os.Started)(H:Type)(enc:TypeId×Value→H) :
  ReturnsInHanded {} Tryz.checked os 9 .any (Rows.datamatrixDetectsSpec.pre6 enc Tryz.prog Tryz.f9 Rows.datamatrixDetectsRow.domain false) (Rows.datamatrixDetectsSpec.post enc Tryz.prog Tryz.f9 false true false false):=by
 refine returnsInHanded_of_change (C:=Tryz.checked) own started (by kernel_rfl) Tryz.func9
  (ChangeSpec.witness6 (enc:=enc) (C:=Tryz.checked) false ⟨#[],#[.int .u8 0,.slice none 0 0],[]⟩ 8 (by kernel_rfl) (by kernel_rfl) (by kernel_rfl) (by kernel_rfl)) ?_
 intro W base args ds gs before hval hW _ _
 exact law_contract (P:=Tryz.prog) (fn:=Tryz.f9) (s:=Rows.datamatrixDetectsSpec) okAll (d:=8) (tys:=[.int .u8,.sl (.int .u8)]) (by kernel_rfl) (by kernel_rfl) (by kernel_rfl) Tryz.underlying4 laidOut (by kernel_rfl) rfl fnE lawAll W (by rw[noGlobals];omega) base args ds gs before hval hW (fun x _=>.inl (Nat.le_refl _))
theorem over:Rows.datamatrixDetectsRow.holds Tryz.pinned (OpenSpec.ofChange Rows.datamatrixDetectsSpec):=
 OpenClaim.holds_of_wide 9 Tryz.f9 rfl rfl rfl rfl rfl rfl rfl ⟨rfl,rfl,rfl,rfl,rfl⟩ rfl rfl rfl rfl rfl (by kernel_rfl) Tryz.func9 (by kernel_rfl)
  (of_decide_eq_true (by kernel_rfl)) (by unfold Func.isWrapper;first|(rw[if_pos (by decide +kernel)];kernel_rfl)|(rw[if_neg (by decide +kernel)];exact⟨rfl,rfl⟩))
  (fun os started H enc _=>lifted os started H enc)
theorem proved:Rows.DatamatrixDetectsSaid:=over
#print axioms proved
end datamatrixDetects
end Go.Proofs.YtmnlgdpdgjbfgaaGreat
