/- QR blocks: Encode of the reference. QR blocks: block of the reference. QR blocks: Decode of the reference. QR blocks: the laws Encodes and Decodes. -/
import Derived.Test.YtkeagffmmhllcaaGreatP18
import Derived.Test.YtkeagffmmhllcaaGreatP19
import Derived.Test.YtkeagffmmhllcaaGreatP22
set_option linter.unusedVariables false
set_option linter.unusedSimpArgs false
set_option linter.unusedSectionVars false
namespace Go.Proofs.YtkeagffmmhllcaaGreat
open Go.Abs Go.RS
set_option linter.unusedSimpArgs false
set_option linter.unusedVariables false
set_option maxRecDepth 20000
theorem spine_appK{cp:FuncId→Option CF}{lo base:Nat}{z:List Value}{H:Heap}{v x:Value}{b t m:Nat}{sp:Option Nat}{D:List Value}{R:Value→Heap→Prop}(ho:Own base 1 H v b D)(hlo:lo≤base)(hbl:base≤H.length)(hx:isSl x=true)(ht:H.get t=some [x])(hbig:D.length+1≤4294967296)
  (k:∀v' H' b',Own base 1 H' v' H.length (D++[x])→Keep b' H H'→(b'=H.length∨(base≤b'∧H.get b'=some D))→H'.length=H.length+1→R v' H'):wpH cp lo (.app 1 z) [v,.slice (some ⟨t,0,sp⟩) 1 m] H R:=by
 have hone:oneCells [x]=true:=by
  cases x<;>simp[isSl]at hx;rfl
 obtain⟨hb,⟨rfl,rfl⟩|⟨n,h1,h2,rfl,h4⟩⟩:=ho
 ·refine wpH_app (b:=H.length) (cells:=[]) (c:=[x]) (Own.nil (by omega)) (by omega) (by omega) (by omega) (by simp) ht (by simp) (by simp) hone ?_
  intro v' H' a1 a2 a3
  exact k v' H' _ ⟨hbl,a1.2⟩ a2 (.inl rfl) a3
 ·refine wpH_app (b:=b) (cells:=D) (c:=[x]) ⟨by omega,.inr ⟨n,h1,h2,rfl,h4⟩⟩ (by omega) (by omega) (by omega) hbig ht (by simp) (by simp) hone ?_
  intro v' H' a1 a2 a3
  exact k v' H' _ ⟨hbl,a1.2⟩ a2 (.inr ⟨hb,h4⟩) a3
theorem sl_keepS{α:Type}{enc:α→Value}{H H':Heap}{v:Value}{l:List α}{t:Nat}{D:List Value}(hk:Keep t H H')(hD:t=H.length∨H.get t=some D)(hs:spiny D=true)(henc:∀x,isSl (enc x)=false)(hl:0<l.length)(h:Sl enc H v l):Sl enc H' v l:=by
 rcases hD with rfl|hD
 ·exact h.mono ⟨hk.len,fun i hi=>hk.eq i hi (by omega)⟩
 ·exact sl_spiny hk hD hs henc hl h
theorem ptL_at'{l:List (Int×Int)}{i:Nat}(h:i<l.length):(ptL l)[i*2]?=some (.int .i64 (l.getD i (0,0)).1)∧(ptL l)[i*2+1]?=some (.int .i64 (l.getD i (0,0)).2):=by
 have h2:=ptL_two h
 have e0:(((ptL l).drop (i*2)).take 2)[0]?=some (.int .i64 (l.getD i (0,0)).1):=by rw[h2];rfl
 have e1:(((ptL l).drop (i*2)).take 2)[1]?=some (.int .i64 (l.getD i (0,0)).2):=by rw[h2];rfl
 rw[List.getElem?_take,if_pos (by decide),List.getElem?_drop]at e0 e1
 exact⟨e0,e1⟩
theorem plI_at'(b:Bk){i:Nat}(h:i<b.all):b.plI.getD i (0,0)=((((b.at i).1:Nat):Int),(((b.at i).2:Nat):Int)):=b.plI_at h
def EncQ(b:Bk)(l:List Int)(H:Heap)(r:Value):Prop:=
 (l.length≠b.cap→r=.tuple #[.slice none 0 0,.int .i64 7])∧(l.length=b.cap→inF 256 l=false→r=.tuple #[.slice none 0 0,.int .i64 3]) ∧
 (∀d:List (El F5),l=valI d→d.length=b.cap→∃vo,r=.tuple #[vo,.int .i64 0]∧SlI H vo (b.wv (b.W d)))
section
variable {lo:Nat}{H:Heap}{v l:Int}
theorem codeV{c:Nat}(hlo:lo≤H.length)(h1:1≤c)(h2:c≤254):Ev cp lo 21 [.int .i64 (c:Nat)] H (fun r H'=>Ext H H'∧r=cdV F5 c 0):=by
 have hok:OkCd 2 256 285 (c:Nat) 0:=⟨⟨_,okf285⟩,by omega,by omega,by omega,by omega⟩
 refine st21 ?_;unfold bd21 cf21;simp only[kB,ctlB]
 repeat' ((first|refine xSQi ?_|refine xOQi rfl ?_);(try simp only[ctlB]))
 refine xHQi ?_
 refine wpH_call0 (newV (ch:=2) (sz:=256) (po:=285) (r:=(c:Nat)) (b:=0) (by simp;omega) (by omega)) ?_
 rintro r H1 ⟨hx1,-,-,hv⟩
 rw[hv hok]
 clear hv
 have g0:H1.get H.length=some _:=hx1.get (xEQi)
 have hx1:=hx1.of_app
 have hl1:=hx1.1
 have hlt:=Heap.get_lt g0
 unfold cdI
 (try simp only[ctlB])
 repeat' ((first|refine xSQi ?_|refine xOQi rfl ?_);(try simp only[ctlB]))
 refine xRQi ?_
 exact⟨(hx1.set (Nat.le_refl _)).trans (Ext.app _ _),rfl⟩
theorem encQ_bad{vd:Value}{d:List Int}(hd:SlI H vd d)(hlo:lo≤H.length)(hno:¬ Vl v l):Ev cp lo 7 [vd,.int .i64 v,.int .i64 l] H (fun r H'=>Ext H H'∧r=.tuple #[.slice none 0 0,.int .i64 (eVl v)]):=by
 have hne:=eVl_ne (v:=v)
 refine st7 ?_;unfold bd7 cf7;simp only[kB,ctlB]
 repeat' ((first|refine xSQi ?_|refine xOQi rfl ?_);(try simp only[ctlB]))
 refine xHQi ?_
 refine wpH_call0 (splitV_bad (v:=v) (l:=l) hd hlo hno) ?_
 rintro r H1 ⟨hx1,rfl⟩
 have hl1:=hx1.1
 generalize eVl v=e at *
 (try simp only[ctlB])
 repeat' ((first|refine xSQi ?_|refine xOQi rfl ?_);(try simp only[ctlB]))
 refine xCQi (fun h=>?_) (fun h=>?_)
 case refine_2=>exfalso;simp at h<;>omega
 clear h
 (try simp only[ctlB])
 repeat' ((first|refine xSQi ?_|refine xOQi rfl ?_);(try simp only[ctlB]))
 refine xRQi ?_
 exact⟨hx1,rfl⟩
set_option maxHeartbeats 1000000 in
theorem encQ{vd:Value}{d:List Int}{i:Nat}(hd:SlI H vd d)(hdl:d.length≤1000000000)(hi:i<160)(ha:[Value.int .i64 v,Value.int .i64 l]=arg i)(hlo:lo≤H.length):Ev cp lo 7 [vd,.int .i64 v,.int .i64 l] H (fun r H'=>Ext H H'∧EncQ (bk i) d H' r):=by
 have hb:=bk_ok hi
 have hsp:=splitV hd hdl hi ha hlo
 have hst:∀{H:Heap},lo≤H.length→_:=fun {H} h=>stV_vl (H:=H) hi ha h
 have hpl:∀{H:Heap},lo≤H.length→_:=fun {H} h=>placeV (H:=H) hi ha h
 clear ha
 refine st7 ?_;unfold bd7 cf7;simp only[kB,ctlB]
 repeat' ((first|refine xSQi ?_|refine xOQi rfl ?_);(try simp only[ctlB]))
 refine xHQi ?_
 refine wpH_call0 hsp ?_
 clear hsp
 generalize bk i=b at *
 rintro r H1 ⟨hx1,hr⟩
 have hl1:=hx1.1
 by_cases hlen:d.length=b.cap
 case neg=>
  rw[hr.1 hlen]
  (try simp only[ctlB])
  repeat' ((first|refine xSQi ?_|refine xOQi rfl ?_);(try simp only[ctlB]))
  refine xCQi (fun h=>?_) (fun h=>?_)
  case refine_2=>exfalso;simp at h
  clear h
  (try simp only[ctlB])
  repeat' ((first|refine xSQi ?_|refine xOQi rfl ?_);(try simp only[ctlB]))
  refine xRQi ?_
  refine⟨hx1,fun _=>rfl,fun h=>absurd h hlen,?_⟩
  rintro e rfl he
  rw[valI_len]at hlen;exact absurd he hlen
 by_cases hin:inF 256 d=true
 case neg=>
  rw[Bool.not_eq_true]at hin
  rw[hr.2.1 hlen hin]
  (try simp only[ctlB])
  repeat' ((first|refine xSQi ?_|refine xOQi rfl ?_);(try simp only[ctlB]))
  refine xCQi (fun h=>?_) (fun h=>?_)
  case refine_2=>exfalso;simp at h
  clear h
  (try simp only[ctlB])
  repeat' ((first|refine xSQi ?_|refine xOQi rfl ?_);(try simp only[ctlB]))
  refine xRQi ?_
  refine⟨hx1,fun h=>absurd hlen h,fun _ _=>rfl,?_⟩
  rintro e rfl he
  rw[show inF 256 (valI e)=true from inF_valI (f:=F5) e]at hin
  cases hin
 obtain⟨vo,rfl,hL⟩:=hr.2.2 hlen hin
 clear hr
 obtain⟨e,he⟩:=to_el (f:=F5) hin
 have he:d=valI e:=he
 subst he
 have hel:e.length=b.cap:=by rw[←hlen,valI_len]
 clear hlen hin
 have hfin:∀{H':Heap} {vo:Value},SlI H' vo (b.wv (b.W e))→EncQ b (valI e) H' (.tuple #[vo,.int .i64 0]):=fun {H' vo} h1=>⟨fun h=>absurd (by rw[valI_len];exact hel) h,fun _ h=>(by rw[show inF 256 (valI e)=true from inF_valI (f:=F5) e]at h;cases h),fun d hd _=>by
  have:e=d:=List.map_inj_right (f:=fun x:El F5=>((x.val:Nat):Int)) (fun x y h=>El.ext (by omega)) |>.1 hd
  subst this
  exact⟨_,rfl,h1⟩⟩
 have h1:=hb.sh
 have h2:=hb.n
 have h3:=hb.da
 have h4:=hb.ck
 have h5:=hb.ck2
 have h6:=hb.len
 have h7:=hb.all
 have hbn:b.sh≤b.n:=by unfold Bk.n;omega
 have hBl:(blks b (valI e)).length=b.n:=by simp[blks]
 obtain⟨av,cv',e1⟩:=hL.sl.len
 rw[hBl]at e1
 subst e1
 (try simp only[ctlB])
 repeat' ((first|refine xSQi ?_|refine xOQi rfl ?_);(try simp only[ctlB]))
 refine xCQi (fun h=>?_) (fun h=>?_)
 ·exfalso;simp at h
 clear h
 (try simp only[ctlB])
 refine xHQi ?_
 refine wpH_call0 (hst (by omega)) ?_
 rintro r H2 ⟨hx2,rfl⟩
 have hL:=hL.mono hx2
 have hx2:=hx1.trans hx2
 have hl2:=hx2.1
 clear hst hx1
 unfold Bk.val
 (try simp only[ctlB])
 repeat' ((first|refine xSQi ?_|refine xOQi rfl ?_);(try simp only[ctlB]))
 generalize hG:H2++_=G at *
 obtain⟨g0,hxG⟩:=box_facts hG
 clear hG
 have hL:=hL.mono hxG
 have hxG:=hx2.trans hxG
 have hlG:=hxG.1
 have hm0:=Heap.get_lt g0
 clear hx2
 obtain⟨vs,hs,hvl,hat⟩:=hL
 rw[hBl]at hvl hat
 obtain⟨bv,spv,capv,ev,gv⟩:=hs.els (by omega)
 rw[hvl]at ev
 cases ev
 have hvlt:=Heap.get_lt gv
 clear hs
 refine aw_for (fun j S H'=>Ext G H'∧∃vo bo D,Own G.length 1 H' vo bo D∧spiny D=true∧D.length=j∧(∀x,x<j→IsEnc g5 b.ck 0 (blk b e x) (b.W e x)∧SlE H' (D.getD x nl) (b.W e x))∧∃(z:Nat→Value),S=[z 0,.int .i64 v,.int .i64 l,z 3,z 4,.slice (some ⟨bv,0,spv⟩) b.n cv',z 6,.pointer (some ⟨H2.length,0,none⟩),vo,.int .i64 (j:Nat),z 10,z 11,z 12,z 13,z 14,z 15,z 16,z 17,z 18,z 19,z 20,z 21,z 22,z 23,z 24,z 25,z 26,z 27]) b.n ?_ ?_ ?_ ?_
 ·exact⟨Ext.refl _,_,_,[],Own.nil (Nat.le_refl _),rfl,rfl,by omega,exZGc rfl⟩
 ·rintro j S H' hj ⟨-,vo,bo,D,-,-,-,-,z,rfl⟩
  exact⟨_,xEQi,by simp⟩
 ·rintro j S H5 hj ⟨hx5,vo,bo,D,oo,sD,lD,hC,z,rfl⟩
  have gv:=hx5.get gv
  have g0:=hx5.get g0
  have hvj:=vs_at (vs:=vs) (i:=j) (by omega)
  have hwj:=(hat j hj).mono hx5
  unfold blks at hwj
  rw[range_getD _ hj,blk_val]at hwj
  have hbl:=blk_len (b:=b) (l:=e) (by omega) hj
  have hlev:=hwj.len
  have hse:SlE H5 (vs.getD j nl) (blk b e j):=sli_sle hwj.sli
  rw[valI_len,hbl]at hlev
  obtain⟨aj,cj,ej⟩:=hlev
  rw[ej]at hvj hse
  clear ej hwj hat
  have hle:=b.len_le j
  have hge:=b.len_ge j
  have hlj:=hx5.1
  (try simp only[ctlB])
  repeat' ((first|refine xSQi ?_|refine xOQi rfl ?_);(try simp only[ctlB]))
  refine xHQi ?_
  refine wpH_call1 (codeV (c:=b.ck) (by omega) (by omega) (by omega)) ?_
  rintro r H6 ⟨hx6,rfl⟩
  have hse:=hse.mono hx6
  have oo:=oo.mono hx6
  have hC:∀x,x<j→IsEnc g5 b.ck 0 (blk b e x) (b.W e x)∧SlE H6 (D.getD x nl) (b.W e x):=fun x hx=>⟨(hC x hx).1,(hC x hx).2.mono hx6⟩
  have hx6:=hx5.trans hx6
  have hl6:=hx6.1
  (try simp only[ctlB])
  refine xHQi ?_
  refine wpH_call0 (encV_ok (f:=F5) (g:=g5) (d:=blk b e j) (by omega) gn285 (cdok5 (by omega) (by omega)) hse (by omega)) ?_
  rintro r H7 ⟨hx7,⟨-,-,vw,w,rfl,hvw,hie⟩|⟨hno,-⟩⟩
  case inr=>exact absurd ⟨by omega,by show _<256;omega⟩ hno
  obtain rfl:w=b.W e j:=encW_of (cdok5 (by omega) (by omega)) hie
  have hwl:=hie.len
  rw[hbl]at hwl
  have oo:=oo.mono hx7
  have hC:∀x,x<j→IsEnc g5 b.ck 0 (blk b e x) (b.W e x)∧SlE H7 (D.getD x nl) (b.W e x):=fun x hx=>⟨(hC x hx).1,(hC x hx).2.mono hx7⟩
  have hx7:=hx6.trans hx7
  have hl7:=hx7.1
  have hvs:=sl_isSl hvw
  clear hse hbl
  obtain⟨aw,cw,ew⟩:=hvw.len
  rw[hwl]at ew
  subst ew
  (try simp only[ctlB])
  repeat' ((first|refine xSQi ?_|refine xOQi rfl ?_);(try simp only[ctlB]))
  refine xHQi ?_
  refine spine_appK (b:=bo) (D:=D) (x:=.slice aw (b.len j+b.ck) cw) (base:=G.length) (oo.mono (Ext.app _ _)) (by omega) (by simp;omega) rfl get_app0 (by omega) ?_
  intro vo' H8 b' oo' hk8 hb' hl8
  have hxa:=Ext.app H7 [some [Value.slice aw (b.len j+b.ck) cw]]
  have hb'':G.length≤b':=by
   rcases hb' with h|h
   ·rw[h];simp;omega
   ·exact h.1
  have hx8:Ext G H8:=hk8.ext (hx7.trans hxa) hb''
  have hmv:∀{v:Value} {l:List (El F5)},0<l.length→SlE H7 v l→SlE H8 v l:=fun hl h=>sl_keepS hk8 (hb'.imp id And.right) sD (fun _=>rfl) hl (h.mono hxa)
  have hWl:∀x,x<j+1→0<(b.W e x).length:=fun x hx=>by
   by_cases hxj:x<j
   ·rw[(hC x hxj).1.len];omega
   ·have:x=j:=by omega
    rw[this];omega
  (try simp only[ctlB])
  repeat' ((first|refine xSQi ?_|refine xOQi rfl ?_);(try simp only[ctlB]))
  refine⟨hx8,vo',_,_,oo',spiny_snoc sD rfl,by simp[lD],fun x hx=>?_,exZGc (by first|rfl|(simp only[Int.natCast_add,Int.natCast_one];rfl)|simp only[Int.natCast_add,Int.natCast_one])⟩
  by_cases hxj:x<j
  ·rw[getD_snoc_lt (by omega)]
   exact⟨(hC x hxj).1,hmv (hWl x hx) (hC x hxj).2⟩
  ·have:x=j:=by omega
   subst this
   rw[getD_snoc_eq lD.symm]
   exact⟨hie,hmv (hWl x hx) hvw⟩
 ·clear hat gv
  rintro S H5 ⟨hx5,vo,bo,D,oo,sD,lD,hC,z,rfl⟩
  have hx5':=hxG.trans hx5
  have hl5:=hx5'.1
  obtain⟨bw,sw,cw,ew,gw⟩:=(SlS.ofOwn oo).els (by omega)
  rw[lD]at ew
  subst ew
  (try simp only[ctlB])
  refine xHQi ?_
  refine wpH_call0 (hpl (by omega)) ?_
  rintro r H6 ⟨hx6,vp,rfl,hp⟩
  have gw:=hx6.get gw
  have hC:∀x,x<b.n→IsEnc g5 b.ck 0 (blk b e x) (b.W e x)∧SlI H6 (D.getD x nl) (valI (b.W e x)):=fun x hx=>⟨(hC x hx).1,(sle_sli (hC x hx).2).mono hx6⟩
  have hx6:=hx5'.trans hx6
  have hl6:=hx6.1
  have hpll:b.plI.length=b.all:=by unfold Bk.plI;rw[List.length_map,b.pl_len]
  have hpn:b.n*1≤b.n*b.ck:=Nat.mul_le_mul_left _ h4
  have hpa:b.all=b.cap+b.n*b.ck:=rfl
  have p1:0<b.all:=by omega
  clear hpn hpa
  obtain⟨pb,psp,pc,ep,gp⟩:=hp.els (by omega)
  rw[hpll]at ep
  subst ep
  have hpt:=fun i (h:i<b.all)=>ptL_at' (l:=b.plI) (i:=i) (by omega)
  have hwl:=wv_len b (b.W e)
  clear hpl oo hp sD g0
  (try simp only[ctlB])
  repeat' ((first|refine xSQi ?_|refine xOQi rfl ?_);(try simp only[ctlB]))
  refine aw_for (fun k S H'=>Ext H6 H'∧∃vo bo,Own H6.length 1 H' vo bo (intL ((b.wv (b.W e)).take k))∧∃(z:Nat→Value),S=[z 0,z 1,z 2,z 3,z 4,z 5,z 6,z 7,.slice (some ⟨bw,0,sw⟩) b.n cw,z 9,z 10,.slice (some ⟨pb,0,psp⟩) b.all pc,vo,.int .i64 (k:Nat),z 14,z 15,z 16,z 17,z 18,z 19,z 20,z 21,z 22,z 23,z 24,z 25,z 26,z 27]) b.all ?_ ?_ ?_ ?_
  ·exact⟨Ext.refl _,_,_,Own.nil (Nat.le_refl _),exZGc rfl⟩
  ·rintro k S H' hk ⟨-,vo,bo,-,z,rfl⟩
   exact⟨_,xEQi,by simp⟩
  ·rintro k S H7 hk ⟨hx7,vo,bo,oo,z,rfl⟩
   obtain⟨hX,hY⟩:=b.at_in hk
   obtain⟨t1,t2⟩:=hpt k hk
   rw[plI_at' b hk]at t1 t2
   obtain⟨hie,hsx⟩:=hC _ hX
   have gw:=hx7.get gw
   have gp:=hx7.get gp
   have hvX:=vs_at (vs:=D) (i:=(b.at k).1) (by omega)
   have hWl:(valI (b.W e (b.at k).1)).length=b.len (b.at k).1+b.ck:=by rw[valI_len,hie.len,blk_len hel hX]
   obtain⟨yb,yo,ysp,yc,ys,ey,gy,fy,_⟩:=(hsx.mono hx7).els 0 (by omega)
   rw[ey]at hvX
   have fyk:=fy (b.at k).2 (by omega)
   have hva:(valI (b.W e (b.at k).1)).getD (b.at k).2 0=(((co (b.W e (b.at k).1) (b.at k).2).val:Nat):Int):=by
    rw[valI_len]at hWl
    unfold valI co
    rw[List.getD_eq_getElem?_getD,List.getElem?_map,List.getElem?_eq_getElem (by omega),List.getD_eq_getElem?_getD,List.getElem?_eq_getElem (by omega)];rfl
   rw[hva]at fyk
   have hnx:=take_getD (l:=b.wv (b.W e)) (i:=k) (0:Int) (by omega)
   rw[wv_at b _ hk]at hnx
   rw[hnx]
   have hl7:=hx7.1
   have htk:((b.wv (b.W e)).take k).length≤4000:=by rw[List.length_take];omega
   have q1:=Heap.get_lt gp
   have q2:=Heap.get_lt gw
   have q3:=Heap.get_lt gy
   clear fy hva hpt hC ey hnx hie hsx
   simp only at t1 t2
   generalize ptL b.plI=PL at *
   generalize (b.wv (b.W e)).take k=tk at *
   generalize (co (b.W e (b.at k).1) (b.at k).2).val=c1 at *
   generalize (b.at k).1=X at *
   generalize (b.at k).2=Y at *
   generalize (valI (b.W e X)).length=wlen at *
   (try simp only[ctlB])
   repeat' ((first|refine xSQi ?_|refine xOQi rfl ?_);(try simp only[ctlB]))
   refine xHQi ?_
   refine wpH_app (b:=bo) (cells:=intL tk) (c':=[.int .i64 (c1:Nat)]) (c:=[.int .i64 (c1:Nat)]) ((oo.mono (Ext.app _ _)).lower (by omega)) (by simp;omega) (by omega) (by omega) (by rw[intL_len];omega) get_app0 (by simp) rfl rfl ?_
   rw[show intL tk++[Value.int .i64 (c1:Nat)]=intL (tk++[((c1:Nat):Int)]) by rw[intL_app];rfl]
   intro vo' H8 oo' hk8 hl8
   have hx8:=hk8.ext (hx7.trans (Ext.app H7 _)) oo.1
   have oo':∃nb,Own H6.length 1 H8 vo' nb (intL (tk++[((c1:Nat):Int)])):=⟨_,by simp;omega,oo'.2⟩
   obtain⟨nb,oo'⟩:=oo'
   (try simp only[ctlB])
   repeat' ((first|refine xSQi ?_|refine xOQi rfl ?_);(try simp only[ctlB]))
   exact⟨hx8,vo',nb,oo',exZGc (by first|rfl|(simp only[Int.natCast_add,Int.natCast_one];rfl)|simp only[Int.natCast_add,Int.natCast_one])⟩
  ·rintro S H7 ⟨hx7,vo,bo,oo,z,rfl⟩
   rw[List.take_of_length_le (by omega)]at oo
   have hfin:=hfin (Sl.ofOwn oo)
   (try simp only[ctlB])
   repeat' ((first|refine xSQi ?_|refine xOQi rfl ?_);(try simp only[ctlB]))
   refine xRQi ?_
   exact⟨hx6.trans hx7,hfin⟩
end
end Go.Proofs.YtkeagffmmhllcaaGreat
namespace Go.Proofs.YtkeagffmmhllcaaGreat
open Go.Abs Go.RS
set_option linter.unusedSimpArgs false
set_option linter.unusedVariables false
set_option maxRecDepth 20000
section
variable {lo:Nat}{H:Heap}
end
end Go.Proofs.YtkeagffmmhllcaaGreat
namespace Go.Proofs.YtkeagffmmhllcaaGreat
open Go.Abs Go.RS
set_option linter.unusedSimpArgs false
set_option linter.unusedVariables false
set_option maxRecDepth 20000
section
variable {lo:Nat}{H:Heap}{v l:Int}
end
end Go.Proofs.YtkeagffmmhllcaaGreat
namespace Go.Proofs.YtkeagffmmhllcaaGreat
open Go.Abs Go.RS
set_option linter.unusedSimpArgs false
set_option linter.unusedVariables false
set_option maxRecDepth 20000
section
variable {lo:Nat}{v l:Int}{vd:Value}{d:List Int}
theorem sli_nil{H:Heap}:SlI H (.slice none 0 0) []:=.inl ⟨rfl,rfl⟩
theorem enc_any(hdl:d.length≤1000000000):∃(L:List Int) (k:Int),L.length≤10000∧(∀H,SlI H vd d→lo≤H.length→Ev cp lo 6 [vd,.int .i64 v,.int .i64 l] H (fun r H'=>Ext H H'∧∃vo,r=.tuple #[vo,.int .i64 k]∧SlI H' vo L)) ∧
  (∀H,SlI H vd d→lo≤H.length→Ev cp lo 7 [vd,.int .i64 v,.int .i64 l] H (fun r H'=>Ext H H'∧∃vo,r=.tuple #[vo,.int .i64 k]∧SlI H' vo L)):=by
 by_cases h:Vl v l
 ·obtain⟨i,hi,ha⟩:=vl_arg h
  have hb:=bk_ok hi
  have hP:∀H,SlI H vd d→lo≤H.length→_:=fun H hd hlo=>encP (lo:=lo) hd hdl hi ha hlo
  have hQ:∀H,SlI H vd d→lo≤H.length→_:=fun H hd hlo=>encQ (lo:=lo) hd hdl hi ha hlo
  generalize bk i=b at *
  have h7:=hb.all
  by_cases h1:d.length=b.cap
  ·by_cases h2:inF 256 d=true
   ·obtain⟨e,he⟩:=to_el (f:=F5) h2
    have he:d=valI e:=he
    have hel:e.length=b.cap:=by rw[←h1,he,valI_len]
    refine⟨b.wv (b.W e),0,by rw[wv_len];omega,fun H hd hlo=>(hP H hd hlo).mono fun r H' h=>⟨h.1,?_⟩,fun H hd hlo=>(hQ H hd hlo).mono fun r H' h=>⟨h.1,h.2.2.2 e he hel⟩⟩
    obtain⟨vo,e1,e2,_⟩:=h.2.2.2 e he hel
    exact⟨vo,e1,e2.sli⟩
   ·rw[Bool.not_eq_true]at h2
    exact⟨[],3,by simp,fun H hd hlo=>(hP H hd hlo).mono fun r H' h=>⟨h.1,_,h.2.2.1 h1 h2,sli_nil⟩,fun H hd hlo=>(hQ H hd hlo).mono fun r H' h=>⟨h.1,_,h.2.2.1 h1 h2,sli_nil⟩⟩
  ·exact⟨[],7,by simp,fun H hd hlo=>(hP H hd hlo).mono fun r H' h=>⟨h.1,_,h.2.1 h1,sli_nil⟩,fun H hd hlo=>(hQ H hd hlo).mono fun r H' h=>⟨h.1,_,h.2.1 h1,sli_nil⟩⟩
 ·exact⟨[],eVl v,by simp,fun H hd hlo=>(encP_bad hd hlo h).mono fun r H' h=>⟨h.1,_,h.2,sli_nil⟩,fun H hd hlo=>(encQ_bad hd hlo h).mono fun r H' h=>⟨h.1,_,h.2,sli_nil⟩⟩
theorem xTVd{cp:FuncId→Option CF}{lo:Nat}{l:List (Nat×E)}{chk:List E}{Q:Post}{S:List Value}{H:Heap}{vs:List (Nat×Value)}{dst:Option Nat}{o:HOp}{a:E}{xs:List Value}{pc:PC}(k:wpH cp lo o xs H fun v H'=>Q .normal (setD (setAll S vs) dst v) H')(h:evSets S H l=some vs:=by exact xEQd)(hc:evChk S H chk=true:=by simp(disch:=first|omega|(simp only[lenB];omega))only[evB,xBQd,Nat.reduceAdd,Nat.reduceBEq, *])(hp:holds S H pc=some true:=by simp(disch:=first|omega|(simp only[lenB];omega))only[evB,xBQd,Nat.reduceAdd,Nat.reduceBEq, *];try rfl)(ha:ev S H a=some xs:=by exact xEQd):wpS cp lo (.hv l chk pc dst o a) Q S H:=aw_hvT h hc hp ha k
theorem lawEnc{H:Heap}(hd:SlI H vd d):Ev cp H.length 3 [vd,.int .i64 v,.int .i64 l] H (fun v _=>v=.bool true):=by
 have hd0:=hd
 obtain⟨ad,cd,rfl⟩:=hd.len
 refine st3 ?_;unfold bd3 cf3;simp only[kB,ctlB]
 repeat' ((first|refine xSQd ?_|refine xOQd rfl ?_);(try simp only[ctlB]))
 by_cases h3:3000<d.length
 ·refine xCQd (fun h=>?_) (fun h=>?_)
  case refine_2=>simp at h;omega
  clear h
  (try simp only[ctlB])
  refine xHQd ?_
  refine wpH_call0 (exH (Nat.le_refl _)) ?_
  rintro r H1 ⟨-,rfl⟩
  (try simp only[ctlB])
  repeat' ((first|refine xSQd ?_|refine xOQd rfl ?_);(try simp only[ctlB]))
  refine xRQd ?_
  rfl
 refine xCQd (fun h=>?_) (fun h=>?_)
 ·simp at h;omega
 clear h
 obtain⟨L,k,hl1,hP,hV⟩:=enc_any (lo:=H.length) (v:=v) (l:=l) (vd:=.slice ad d.length cd) (d:=d) (by omega)
 (try simp only[ctlB])
 refine xHQd ?_
 refine wpH_call0 (hP H hd0 (Nat.le_refl _)) ?_
 rintro r H1 ⟨hx1,v1,rfl,hv1⟩
 have hV:=hV H1 (hd0.mono hx1) hx1.1
 clear hP
 (try simp only[ctlB])
 repeat' ((first|refine xSQd ?_|refine xOQd rfl ?_);(try simp only[ctlB]))
 refine xHQd ?_
 refine wpH_call0 hV ?_
 rintro r H2 ⟨hx2,v2,rfl,hv2⟩
 have hv1:=hv1.mono hx2
 have hx2:=hx1.trans hx2
 have hl3:=hx2.1
 clear hV hx1 hd hd0
 (try simp only[ctlB])
 repeat' ((first|refine xSQd ?_|refine xOQd rfl ?_);(try simp only[ctlB]))
 refine xTVd ?_
 refine wpH_call0 (same_eq hv1 hv2 (by omega) (by omega) rfl) ?_
 rintro r _ ⟨rfl,rfl⟩
 (try simp only[ctlB])
 refine xTVd ?_
 refine wpH_call0 (exH hl3) ?_
 rintro r H3 ⟨-,rfl⟩
 (try simp only[ctlB])
 repeat' ((first|refine xSQd ?_|refine xOQd rfl ?_);(try simp only[ctlB]))
 refine xRQd ?_
 rfl
end
end Go.Proofs.YtkeagffmmhllcaaGreat
