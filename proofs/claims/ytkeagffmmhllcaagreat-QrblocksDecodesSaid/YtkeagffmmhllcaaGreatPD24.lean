/- QR blocks: Encode of the reference. QR blocks: block of the reference. QR blocks: Decode of the reference. QR blocks: the laws Encodes and Decodes. -/
import Derived.Test.YtkeagffmmhllcaaGreatPD18
import Derived.Test.YtkeagffmmhllcaaGreatPD19
import Derived.Test.YtkeagffmmhllcaaGreatPD22
set_option linter.unusedVariables false
set_option linter.unusedSimpArgs false
set_option linter.unusedSectionVars false
namespace Go.Proofs.YtkeagffmmhllcaaGreat
open Go.Abs Go.RS
set_option linter.unusedSimpArgs false
set_option linter.unusedVariables false
set_option maxRecDepth 20000
theorem ptL_at'{l:List (Int×Int)}{i:Nat}(h:i<l.length):(ptL l)[i*2]?=some (.int .i64 (l.getD i (0,0)).1)∧(ptL l)[i*2+1]?=some (.int .i64 (l.getD i (0,0)).2):=by
 have h2:=ptL_two h
 have e0:(((ptL l).drop (i*2)).take 2)[0]?=some (.int .i64 (l.getD i (0,0)).1):=by rw[h2];rfl
 have e1:(((ptL l).drop (i*2)).take 2)[1]?=some (.int .i64 (l.getD i (0,0)).2):=by rw[h2];rfl
 rw[List.getElem?_take,if_pos (by decide),List.getElem?_drop]at e0 e1
 exact⟨e0,e1⟩
theorem plI_at'(b:Bk){i:Nat}(h:i<b.all):b.plI.getD i (0,0)=((((b.at i).1:Nat):Int),(((b.at i).2:Nat):Int)):=b.plI_at h
section
variable {lo:Nat}{H:Heap}{v l:Int}
theorem codeV{c:Nat}(hlo:lo≤H.length)(h1:1≤c)(h2:c≤254):Ev cp lo 21 [.int .i64 (c:Nat)] H (fun r H'=>Ext H H'∧r=cdV F5 c 0):=by
 have hok:OkCd 2 256 285 (c:Nat) 0:=⟨⟨_,okf285⟩,by omega,by omega,by omega,by omega⟩
 refine st21 ?_;unfold bd21 cf21;simp only[kB,ctlB]
 repeat' ((first|refine xSQi ?_|refine xOQi rfl ?_);(try simp only[ctlB]))
 refine xHQi ?_
 refine wpH_call0 (newV (ch:=2) (sz:=256) (po:=285) (r:=(c:Nat)) (b:=0) (by simp;omega) (by omega)) ?_
 rintro r H1 ⟨hx1,-,-,hv⟩
 rw[hv hok]
 clear hv
 have g0:H1.get H.length=some _:=hx1.get (xEQi)
 have hx1:=hx1.of_app
 have hl1:=hx1.1
 have hlt:=Heap.get_lt g0
 unfold cdI
 (try simp only[ctlB])
 repeat' ((first|refine xSQi ?_|refine xOQi rfl ?_);(try simp only[ctlB]))
 refine xRQi ?_
 exact⟨(hx1.set (Nat.le_refl _)).trans (Ext.app _ _),rfl⟩
end
end Go.Proofs.YtkeagffmmhllcaaGreat
namespace Go.Proofs.YtkeagffmmhllcaaGreat
open Go.Abs Go.RS
set_option linter.unusedSimpArgs false
set_option linter.unusedVariables false
set_option maxRecDepth 20000
def frI(b:Bk)(i x:Nat):List Int:=(List.range (b.len x+b.ck)).map fun k=>if b.pos x k<i then((b.pos x k:Nat):Int) else 0
theorem frI_len{b:Bk}{i x:Nat}:(frI b i x).length=b.len x+b.ck:=by simp[frI]
theorem frI_zero{b:Bk}{x:Nat}:frI b 0 x=List.replicate (b.len x+b.ck) 0:=by
 unfold frI
 rw[List.map_congr_left (g:=fun _=>(0:Int)) (fun k _=>if_neg (by omega))]
 simp[List.map_const']
theorem frI_ne{b:Bk}{i x:Nat}(hx:x<b.n)(hi:i<b.all)(hne:x≠(b.at i).1):frI b (i+1) x=frI b i x:=by
 refine List.map_congr_left fun k hk=>?_
 have hk:=List.mem_range.1 hk
 have h:b.pos x k≠i:=by
  intro h
  have:=b.at_pos hx hk
  rw[h]at this
  exact hne (by rw[this])
 by_cases h2:b.pos x k<i
 ·rw[if_pos (by omega),if_pos h2]
 ·rw[if_neg (by omega),if_neg h2]
theorem frI_set{b:Bk}{i:Nat}(hi:i<b.all):(frI b i (b.at i).1).set (b.at i).2 (i:Int)=frI b (i+1) (b.at i).1:=by
 obtain⟨h1,h2⟩:=b.at_in hi
 unfold frI
 refine range_setG h2 ?_ fun k hk hne=>?_
 ·rw[b.pos_at hi,if_pos (by omega)]
 ·have h:b.pos (b.at i).1 k≠i:=by
   intro h
   have:=b.at_pos h1 hk
   rw[h]at this
   exact hne (by rw[this])
  by_cases h2:b.pos (b.at i).1 k<i
  ·rw[if_pos (by omega),if_pos h2]
  ·rw[if_neg (by omega),if_neg h2]
theorem own_realI'{lo:Nat}{H:Heap}{v:Value}{b:Nat}{l:List Int}(h:Own lo 1 H v b (intL l))(hl:0<l.length):v=.slice (some ⟨b,0,some 1⟩) l.length l.length∧H.get b=some (intL l):=by
 obtain⟨_,⟨_,h⟩|⟨n,_,h1,rfl,h2⟩⟩:=h
 ·have:=congrArg List.length h;rw[intL_len]at this;simp only[List.length_nil]at this;omega
 ·rw[intL_len,Nat.mul_one]at h1
  subst h1;exact⟨rfl,h2⟩
section
variable {lo:Nat}{H:Heap}
set_option maxHeartbeats 2000000 in
theorem blockV{b:Bk}{aw ae ap:Option Addr}{cw ce cq x:Nat}{wl:List Int}{el:List Bool}(hb:b.Ok)(hx:x<b.n)(hpos:0<b.all)(hw:SlI H (.slice aw b.all cw) wl)(hwl:wl.length=b.all)(he:SlB H (.slice ae el.length ce) el)(hel:el.length=0∨el.length=b.all)(hp:SlPt H (.slice ap b.all cq) b.plI)(hlo:lo≤H.length) :
  Ev cp lo 25 [.slice aw b.all cw,.slice ae el.length ce,.slice ap b.all cq,.int .i64 (x:Nat),.int .i64 (b.len x+b.ck:Nat)] H (fun r H'=>Ext H H'∧∃v8 v9 v10,r=.tuple #[v8,v9,v10]∧SlI H' v8 (wdI b wl (fun i=>el.getD i false) b.all x)∧SlI H' v9 (losI b (fun i=>el.getD i false) b.all x)∧SlI H' v10 (frI b b.all x)):=by
 have h7:=hb.all
 have h6:=hb.len
 have hle:=b.len_le x
 have hge:=b.len_ge x
 have hda:=hb.da
 have hpll:b.plI.length=b.all:=by unfold Bk.plI;rw[List.length_map,b.pl_len]
 generalize hN:b.len x+b.ck=N at *
 refine st25 ?_;unfold bd25 cf25;simp only[kB,ctlB]
 repeat' ((first|refine xSQd ?_|refine xOQd rfl ?_);(try simp only[ctlB]))
 refine aw_for (fun k S H'=>Ext H H'∧∃v8 v10 b8 b10,Own H.length 1 H' v8 b8 (intL (List.replicate k 0))∧Own H.length 1 H' v10 b10 (intL (List.replicate k 0))∧b8≠b10∧(b10<H.length+1∨b10<H'.length)∧∃(z:Nat→Value),S=[.slice aw b.all cw,.slice ae el.length ce,.slice ap b.all cq,.int .i64 (x:Nat),.int .i64 (N:Nat),z 5,z 6,z 7,v8,.slice none 0 0,v10,.int .i64 (k:Nat),z 12,z 13,z 14,z 15,z 16,z 17,z 18,z 19,z 20,z 21]) N ?_ ?_ ?_ ?_
 ·exact⟨Ext.refl _,_,_,_,_,Own.nil (b:=H.length+1) (by omega),Own.nil (b:=H.length) (by omega),by omega,by omega,exZGc rfl⟩
 ·rintro k S H' hk ⟨-,v8,v10,b8,b10,-,-,-,-,z,rfl⟩
  exact⟨_,xEQd,by simp⟩
 ·rintro k S H2 hk ⟨hx2,v8,v10,b8,b10,o8,o10,hne,hb10,z,rfl⟩
  have hl2:=hx2.1
  (try simp only[ctlB])
  repeat' ((first|refine xSQd ?_|refine xOQd rfl ?_);(try simp only[ctlB]))
  refine xHQd ?_
  refine wpH_app (b:=b8) (cells:=intL (List.replicate k 0)) (c':=[.int .i64 0]) (c:=[.int .i64 0]) ((o8.mono (Ext.app _ _)).lower (by omega)) (by simp;omega) (by omega) (by omega) (by rw[intL_len,List.length_replicate];omega) get_app0 (by simp) rfl rfl ?_
  rw[show intL (List.replicate k 0)++[Value.int .i64 0]=intL (List.replicate (k+1) 0) by rw[List.replicate_succ',intL_app];rfl]
  intro v8' H3 o8' hk3 hl3
  replace hl3:H3.length=H2.length+2:=by simpa using hl3
  have hx3:=hk3.ext (hx2.trans (Ext.app H2 _)) o8.1
  have o8':Own H.length 1 H3 v8' (H2.length+1) (intL (List.replicate (k+1) 0)):=⟨by omega,by simpa using o8'.2⟩
  have o10:=(o10.mono (Ext.app H2 [some [Value.int .i64 0]])).keep hk3 (Ne.symm hne)
  replace hl3:H2.length+2≤H3.length∧H3.length≤H2.length+2:=by omega
  (try simp only[ctlB])
  repeat' ((first|refine xSQd ?_|refine xOQd rfl ?_);(try simp only[ctlB]))
  refine xHQd ?_
  refine wpH_app (b:=b10) (cells:=intL (List.replicate k 0)) (c':=[.int .i64 0]) (c:=[.int .i64 0]) ((o10.mono (Ext.app _ _)).lower (by omega)) (by simp;omega) (by omega) (by omega) (by rw[intL_len,List.length_replicate];omega) get_app0 (by simp) rfl rfl ?_
  rw[show intL (List.replicate k 0)++[Value.int .i64 0]=intL (List.replicate (k+1) 0) by rw[List.replicate_succ',intL_app];rfl]
  intro v10' H4 o10' hk4 hl4
  replace hl4:H4.length=H3.length+2:=by simpa using hl4
  have hx4:=hk4.ext (hx3.trans (Ext.app H3 _)) o10.1
  have o10':Own H.length 1 H4 v10' (H3.length+1) (intL (List.replicate (k+1) 0)):=⟨by omega,by simpa using o10'.2⟩
  have o8:=(o8'.mono (Ext.app H3 [some [Value.int .i64 0]])).keep hk4 (by omega)
  replace hl4:H3.length+2≤H4.length∧H4.length≤H3.length+2:=by omega
  (try simp only[ctlB])
  repeat' ((first|refine xSQd ?_|refine xOQd rfl ?_);(try simp only[ctlB]))
  exact⟨hx4,v8',v10',_,_,o8,o10',by omega,by omega,exZGc (by first|rfl|(simp only[Int.natCast_add,Int.natCast_one];rfl)|simp only[Int.natCast_add,Int.natCast_one])⟩
 ·rintro S H2 ⟨hx2,v8,v10,b8,b10,o8,o10,hne,hb10,z,rfl⟩
  have hl2:=hx2.1
  have hh8:=o8.1
  have hh10:=o10.1
  obtain⟨rfl,g8⟩:=own_realI' o8 (by rw[List.length_replicate];omega)
  obtain⟨rfl,g10⟩:=own_realI' o10 (by rw[List.length_replicate];omega)
  have l8:=Heap.get_lt g8
  have l10:=Heap.get_lt g10
  rw[←hN,←wdI_zero (wl:=wl) (er:=fun i=>el.getD i false)]at g8
  rw[←hN,←frI_zero]at g10
  simp only[List.length_replicate]
  clear o8 o10
  (try simp only[ctlB])
  repeat' ((first|refine xSQd ?_|refine xOQd rfl ?_);(try simp only[ctlB]))
  refine aw_for (fun i S H'=>Low H.length H2 H'∧H2.length≤H'.length∧Heap.get H' b8=some (intL (wdI b wl (fun i=>el.getD i false) i x))∧Heap.get H' b10=some (intL (frI b i x))∧(∃v9 q,H2.length≤q∧LosH H' v9 q (losI b (fun i=>el.getD i false) i x)∧∃(z:Nat→Value),S=[.slice aw b.all cw,.slice ae el.length ce,.slice ap b.all cq,.int .i64 (x:Nat),z 4,z 5,z 6,z 7,.slice (some ⟨b8,0,some 1⟩) N N,v9,.slice (some ⟨b10,0,some 1⟩) N N,z 11,.int .i64 (i:Nat),z 13,z 14,z 15,z 16,z 17,z 18,z 19,z 20,z 21])) b.all ?_ ?_ ?_ ?_
  ·exact⟨Low.ext (Ext.refl _),Nat.le_refl _,g8,g10,_,H2.length,Nat.le_refl _,.inl ⟨rfl,rfl⟩,exZGc rfl⟩
  ·rintro i S H' hi ⟨-,-,-,-,v9,q,-,-,z,rfl⟩
   exact⟨_,xEQd,by simp⟩
  ·clear g8 g10
   rintro i S H3 hi ⟨low,hl3,g8,g10,v9,q,hq,hlos,z,rfl⟩
   have hx3:=Low.toExt hx2 low (Nat.le_refl _)
   obtain⟨hX,hY⟩:=b.at_in hi
   obtain⟨pb,psp,pc,ep,gp⟩:=hp.els (by omega)
   rw[hpll]at ep
   cases ep
   obtain⟨t1,t2⟩:=ptL_at' (l:=b.plI) (i:=i) (by omega)
   rw[plI_at' b hi]at t1 t2
   obtain⟨xb,xo,xsp,xc,xs,e1,gx,fx,_⟩:=hw.els 0 (by omega)
   rw[hwl]at e1 fx
   cases e1
   have kx:=fx i hi
   have hwI:(wdI b wl (fun i=>el.getD i false) i x).length=N:=by rw[wdI_len];exact hN
   have hfI:(frI b i x).length=N:=by rw[frI_len];exact hN
   have q1:=Heap.get_lt g8
   have q2:=Heap.get_lt g10
   have q3:=Heap.get_lt gp
   have q4:=Heap.get_lt gx
   have gp:=hx3.get gp
   have gx:=hx3.get gx
   have hlel:=losI_le (b:=b) (er:=fun i=>el.getD i false) (i:=i) (x:=x)
   simp only at t1 t2
   clear fx
   generalize hPL:ptL b.plI=PL at *
   by_cases hXx:(b.at i).1=x
   ·have hfs:=frI_set hi
    have hws:=wdI_set (wl:=wl) (er:=fun i=>el.getD i false) hi
    have hwe:=wdI_er (wl:=wl) (er:=fun i=>el.getD i false) (i:=i) hx
    have hls:=losI_succ (b:=b) (er:=fun i=>el.getD i false) (i:=i) (x:=x)
    rw[hXx]at hfs hY t1 hws hls
    rw[hN]at hY
    simp only[true_and]at hls hws hwe
    generalize hF1:frI b (i+1) x=F1 at *
    generalize hF0:frI b i x=F0 at *
    generalize hW1:wdI b wl (fun i=>el.getD i false) (i+1) x=W1 at *
    generalize hW0:wdI b wl (fun i=>el.getD i false) i x=W0 at *
    generalize hL1:losI b (fun i=>el.getD i false) (i+1) x=L1 at *
    generalize hL0:losI b (fun i=>el.getD i false) i x=L0 at *
    clear hF1 hF0 hW1 hW0 hL1 hL0
    generalize (b.at i).2=Y at *
    generalize wl.getD i 0=wi at *
    replace hws:False∨_:=.inr hws
    replace hwe:False∨_:=.inr hwe
    replace hls:False∨_:=.inr hls
    (try simp only[ctlB])
    refine xCQd (fun h=>?_) (fun h=>?_)
    case refine_2=>exfalso;simp at h
    clear h
    (try simp only[ctlB])
    ((first|refine xSQd ?_|refine xOQd rfl ?_);(try simp only[ctlB]))
    have hkk:Keep b10 H3 (H3.set b10 (some (intL F1))):=keep_set (Ext.refl _) _ _
    have g10n:Heap.get (H3.set b10 (some (intL F1))) b10=some (intL F1):=get_set_self q2
    have hl4:(H3.set b10 (some (intL F1))).length=H3.length:=by simp
    have g8:=hkk.get g8 hne
    have gp:=hkk.get gp (by omega)
    have gx:=hkk.get gx (by omega)
    have low4:=Low.trans low (Low.keep hkk hh10)
    have hlos:=hlos.move fun c _ hc=>hkk.get hc (by omega)
    have hx4:=Low.toExt hx2 low4 (Nat.le_refl _)
    generalize H3.set b10 (some (intL F1))=H4 at *
    replace hl4:H3.length≤H4.length∧H4.length≤H3.length:=by omega
    clear hfs g10 hkk hfI
    refine aw_cond (t:=el.getD i false) ?_ (fun h=>?_) (fun h=>?_)
    ·rcases hel with h0|h0
     ·have hdec:decide ((0:Int)<((el.length:Nat):Int))=false:=decide_eq_false (by omega)
      have h1:el.getD i false=false:=by rw[List.length_eq_zero_iff.1 h0];rfl
      rw[h1]
      clear h0 h1
      simp(disch:=first|omega|(simp only[lenB];omega))only[evB,xBQd,Nat.reduceAdd,Nat.reduceBEq, *]
     ·obtain⟨yb,yo,ysp,yc,ys,e2,gy,fy,_⟩:=(he.mono hx4).els false (by omega)
      cases e2
      have ky:=fy i (by omega)
      have hdec:decide ((0:Int)<((el.length:Nat):Int))=true:=decide_eq_true (by omega)
      replace h0:el.length≤b.all∧b.all≤el.length:=by omega
      clear fy
      simp(disch:=first|omega|(simp only[lenB];omega))only[evB,xBQd,Nat.reduceAdd,Nat.reduceBEq, *]
    ·have hls:=hls.resolve_left id
     have hwe:=hwe.resolve_left id h
     rw[if_pos h]at hls
     subst hwe
     clear h hws
     (try simp only[ctlB])
     repeat' ((first|refine xSQd ?_|refine xOQd rfl ?_);(try simp only[ctlB]))
     generalize hG:H4++_=H5 at *
     obtain⟨gy,hx5⟩:=box_facts hG
     have hl5:H4.length+1≤H5.length∧H5.length≤H4.length+1:=by rw[←hG];simp
     clear hG
     have hL5:=hlos.move fun c _ hc=>hx5.get hc
     have hown:=hL5.own (base:=H2.length) (n:=H5.length) hq (by omega)
     have hqa:H2.length≤(if L0=[] then H5.length else q):=by split<;>omega
     generalize (if L0=[] then H5.length else q)=qa at *
     refine xHQd ?_
     refine wpH_app (b:=qa) (cells:=intL L0) (c':=[.int .i64 (Y:Nat)]) (c:=[.int .i64 (Y:Nat)]) (hown.lower (by omega)) (by omega) (by omega) (by omega) (by rw[intL_len];omega) gy (by simp) rfl rfl ?_
     rw[show intL L0++[Value.int .i64 (Y:Nat)]=intL (L0++[((Y:Nat):Int)]) by rw[intL_app];rfl,←hls]
     intro v' H6 o6 hk6 hl6
     have hL6:=LosH.of o6 (by rw[hls];simp)
     have g8:=hk6.get (hx5.get g8) (by omega)
     have g10:=hk6.get (hx5.get g10n) (by omega)
     have low6:=Low.trans low4 (Low.trans (Low.ext hx5) (Low.keep hk6 (by omega)))
     clear hls
     (try simp only[ctlB])
     repeat' ((first|refine xSQd ?_|refine xOQd rfl ?_);(try simp only[ctlB]))
     exact⟨low6,by omega,g8,g10,v',H5.length,by omega,hL6,exZGc (by first|rfl|(simp only[Int.natCast_add,Int.natCast_one];rfl)|simp only[Int.natCast_add,Int.natCast_one])⟩
    ·have hls:=hls.resolve_left id
     have hws:=hws.resolve_left id h
     rw[if_neg (by rw[h];simp),List.append_nil]at hls
     subst hls
     have hkk:Keep b8 H4 (H4.set b8 (some (intL W1))):=keep_set (Ext.refl _) _ _
     clear h hwe
     (try simp only[ctlB])
     repeat' ((first|refine xSQd ?_|refine xOQd rfl ?_);(try simp only[ctlB]))
     refine⟨Low.trans low4 (Low.keep hkk hh8),by simp;omega,by rw[get_set_self (by omega)],hkk.get g10n (Ne.symm hne),v9,q,hq,hlos.move fun c _ hc=>hkk.get hc (by omega),exZGc (by first|rfl|(simp only[Int.natCast_add,Int.natCast_one];rfl)|simp only[Int.natCast_add,Int.natCast_one])⟩
   ·have hwn:wdI b wl (fun i=>el.getD i false) (i+1) x=wdI b wl (fun i=>el.getD i false) i x:=wdI_ne hx hi (fun e=>hXx e.symm)
    have hfn:=frI_ne hx hi (fun e=>hXx e.symm)
    have hln:losI b (fun i=>el.getD i false) (i+1) x=losI b (fun i=>el.getD i false) i x:=by
     rw[losI_succ,if_neg (fun h=>hXx h.1),List.append_nil]
    rw[hwn,hfn,hln]
    clear hwn hfn hln
    generalize (b.at i).1=X at *
    (try simp only[ctlB])
    refine xCQd (fun h=>?_) (fun h=>?_)
    ·exfalso;simp at h<;>omega
    clear h
    (try simp only[ctlB])
    repeat' ((first|refine xSQd ?_|refine xOQd rfl ?_);(try simp only[ctlB]))
    exact⟨low,hl3,g8,g10,v9,q,hq,hlos,exZGc (by first|rfl|(simp only[Int.natCast_add,Int.natCast_one];rfl)|simp only[Int.natCast_add,Int.natCast_one])⟩
  ·rintro S H3 ⟨low,hl3,g8,g10,v9,q,hq,hlos,z,rfl⟩
   (try simp only[ctlB])
   repeat' ((first|refine xSQd ?_|refine xOQd rfl ?_);(try simp only[ctlB]))
   refine xRQd ?_
   exact⟨Low.toExt hx2 low (Nat.le_refl _),_,v9,_,rfl,Sl.whole g8 (by rw[wdI_len];exact hN),hlos.sli,Sl.whole g10 (by rw[frI_len];exact hN)⟩
end
end Go.Proofs.YtkeagffmmhllcaaGreat
namespace Go.Proofs.YtkeagffmmhllcaaGreat
open Go.Abs Go.RS
set_option linter.unusedSimpArgs false
set_option linter.unusedVariables false
set_option maxRecDepth 20000
def cBl(b:Bk)(φ:Nat→Bool)(j:Nat):Nat:=List.countP (fun i=>decide ((b.at i).1<j)&&φ i) (List.range b.all)
theorem cBl_zero(b:Bk)(φ:Nat→Bool):cBl b φ 0=0:=by
 unfold cBl
 rw[List.countP_eq_zero]
 intro i _
 simp
theorem cBl_succ(b:Bk)(φ:Nat→Bool)(j:Nat):cBl b φ (j+1)=cBl b φ j+cntX b j φ:=by
 unfold cBl cntX
 rw[←List.countP_eq_length_filter]
 generalize b.all=n
 induction n with
 | zero=>rfl
 | succ n ih=>
  rw[List.range_succ,List.countP_append,List.countP_append,List.countP_append,ih,List.countP_singleton,List.countP_singleton,List.countP_singleton]
  cases hφ:φ n with
  | false=>simp
  | true=>
   by_cases h:(b.at n).1<j
   ·have h2:¬ (b.at n).1=j:=by omega
    have h3:(b.at n).1<j+1:=by omega
    simp[h,h2,h3];omega
   ·by_cases h2:(b.at n).1=j
    ·have h3:(b.at n).1<j+1:=by omega
     simp[h2];omega
    ·have h3:¬ (b.at n).1<j+1:=by omega
     simp[h,h2,h3]
theorem cBl_all(b:Bk)(wl rl:List Int):cBl b (fun i=>decide (rl.getD i 0≠wl.getD i 0)) b.n=chg wl rl b.all:=by
 unfold cBl chg
 rw[←List.countP_eq_length_filter]
 refine List.countP_congr fun i hi=>?_
 have:=(b.at_in (List.mem_range.1 hi)).1
 simp only[decide_eq_true this,Bool.true_and]
theorem cBl_le(b:Bk)(φ:Nat→Bool)(j:Nat):cBl b φ j≤b.all:=by
 unfold cBl
 exact Nat.le_trans (List.countP_le_length) (by simp)
def cIn(b:Bk)(φ:Nat→Bool)(x k:Nat):Nat:=(sel (fun k=>φ (b.pos x k)) k).length
theorem cIn_succ(b:Bk)(φ:Nat→Bool)(x k:Nat):cIn b φ x (k+1)=cIn b φ x k+if φ (b.pos x k)=true then 1 else 0:=by
 unfold cIn
 rw[sel_succ,List.length_append]
 split<;>simp
theorem cIn_le(b:Bk)(φ:Nat→Bool)(x:Nat):∀k,cIn b φ x k≤k
 | 0=>by simp[cIn,sel]
 | k+1=>by
  rw[cIn_succ]
  have:=cIn_le b φ x k
  split<;>omega
section
variable {lo:Nat}{H:Heap}{v l:Int}
theorem decQ_bad{vw ve:Value}(hlo:lo≤H.length)(hno:¬ Vl v l):Ev cp lo 10 [vw,ve,.int .i64 v,.int .i64 l] H (fun r H'=>Ext H H'∧r=tup3 nl 0 (eVl v)):=by
 have hne:=eVl_ne (v:=v)
 refine st10 ?_;unfold bd10 cf10;simp only[kB,ctlB]
 repeat' ((first|refine xSQi ?_|refine xOQi rfl ?_);(try simp only[ctlB]))
 refine xHQi ?_
 refine wpH_call0 (stV_bad (v:=v) (l:=l) hlo hno) ?_
 rintro r H1 ⟨hx1,rfl⟩
 have hl1:=hx1.1
 unfold Bk.val bk0
 generalize eVl v=e at *
 (try simp only[ctlB])
 repeat' ((first|refine xSQi ?_|refine xOQi rfl ?_);(try simp only[ctlB]))
 refine xCQi (fun h=>?_) (fun h=>?_)
 case refine_2=>exfalso;simp at h<;>omega
 clear h
 (try simp only[ctlB])
 repeat' ((first|refine xSQi ?_|refine xOQi rfl ?_);(try simp only[ctlB]))
 refine xRQi ?_
 exact⟨hx1.trans (Ext.app _ _),rfl⟩
set_option maxHeartbeats 2000000 in
theorem decQ{vw ve:Value}{wl:List Int}{el:List Bool}{i:Nat}(hw:SlI H vw wl)(he:SlB H ve el)(hwl:wl.length≤1000000000)(hel:el.length≤1000000000)(hi:i<160)(ha:[Value.int .i64 v,Value.int .i64 l]=arg i)(hlo:lo≤H.length):Ev cp lo 10 [vw,ve,.int .i64 v,.int .i64 l] H (fun r H'=>Ext H H'∧DecIs (bk i) wl el H' r):=by
 have hb:=bk_ok hi
 have hst:=stV_vl hi ha hlo
 have hpl:∀{H:Heap},lo≤H.length→_:=fun {H} h=>placeV (H:=H) hi ha h
 clear ha
 have hw0:=hw
 have he0:=he
 obtain⟨aw,cw,rfl⟩:=hw.len
 obtain⟨ae,ce,rfl⟩:=he.len
 refine st10 ?_;unfold bd10 cf10;simp only[kB,ctlB]
 repeat' ((first|refine xSQi ?_|refine xOQi rfl ?_);(try simp only[ctlB]))
 refine xHQi ?_
 refine wpH_call0 hst ?_
 rintro r H1 ⟨hx1,rfl⟩
 clear hst
 generalize bk i=b at *
 have h1:=hb.sh
 have h2:=hb.n
 have h3:=hb.da
 have h4:=hb.ck
 have h5:=hb.ck2
 have h6:=hb.len
 have h7:=hb.all
 have hbn:b.sh≤b.n:=by unfold Bk.n;omega
 have hs:(b.sh:Int)+(b.lg:Int)=(b.n:Nat):=by unfold Bk.n;omega
 have hcapA:b.cap≤b.all:=Nat.le_add_right _ _
 have hpos:0<b.all:=by
  have hn:b.n*1≤b.n*b.ck:=Nat.mul_le_mul_left _ h4
  have:b.all=b.cap+b.n*b.ck:=rfl
  omega
 have hpll:b.plI.length=b.all:=by unfold Bk.plI;rw[List.length_map,b.pl_len]
 have hl1:=hx1.1
 unfold Bk.val
 (try simp only[ctlB])
 repeat' ((first|refine xSQi ?_|refine xOQi rfl ?_);(try simp only[ctlB]))
 generalize hG:H1++_=G at *
 obtain⟨g0,hxG⟩:=box_facts hG
 clear hG
 have hxG:=hx1.trans hxG
 have hlG:=hxG.1
 refine xCQi (fun h=>?_) (fun h=>?_)
 ·cases h
 clear h
 (try simp only[ctlB])
 refine xHQi ?_
 refine wpH_call0 (hpl (by omega)) ?_
 rintro r H2 ⟨hx2,vp,rfl,hp⟩
 have g0:=hx2.get g0
 have hx2:=hxG.trans hx2
 have hl2:=hx2.1
 have hp0:=hp
 obtain⟨ap,cq,e0⟩:=hp.len
 rw[hpll]at e0
 subst e0
 clear hp hpl hxG hx1
 (try simp only[ctlB])
 repeat' ((first|refine xSQi ?_|refine xOQi rfl ?_);(try simp only[ctlB]))
 by_cases hlen:wl.length≠b.all∨(el.length≠0∧el.length≠wl.length)
 ·refine xCQi (fun h=>?_) (fun h=>?_)
  case refine_2=>exfalso;simp only[Bool.or_eq_true,Bool.and_eq_true,Bool.or_eq_false_iff,Bool.and_eq_false_iff,decide_eq_true_eq,decide_eq_false_iff_not]at h;omega
  clear h
  (try simp only[ctlB])
  repeat' ((first|refine xSQi ?_|refine xOQi rfl ?_);(try simp only[ctlB]))
  refine xRQi ?_
  exact⟨hx2,fun _=>rfl,fun h=>absurd hlen h,fun h=>absurd hlen h,fun h=>absurd hlen h⟩
 have hll:wl.length=b.all∧(el.length=0∨el.length=b.all):=by omega
 refine xCQi (fun h=>?_) (fun h=>?_)
 ·exfalso;simp only[Bool.or_eq_true,Bool.and_eq_true,Bool.or_eq_false_iff,Bool.and_eq_false_iff,decide_eq_true_eq,decide_eq_false_iff_not]at h;omega
 clear h
 obtain⟨hll,hel2⟩:=hll
 have fin:∀(v:Value) (H':Heap),Ext H2 H'→(¬ Rd b wl (fun i=>el.getD i false)→v=tup3 nl 0 3)→(Rd b wl (fun i=>el.getD i false)→¬ (∀x,x<b.n→OkX b wl (fun i=>el.getD i false) x)→v=tup3 nl 0 17) →
   (Rd b wl (fun i=>el.getD i false)→(∀x,x<b.n→OkX b wl (fun i=>el.getD i false) x)→∃vd,v=tup3 vd (chg wl (b.wv (fxX b wl (fun i=>el.getD i false))) b.all:Nat) 0∧SlI H' vd (b.dat (fxX b wl (fun i=>el.getD i false)) b.n))→Ext H H'∧DecIs b wl el H' v:=
  fun v H' hx a1 a2 a3=>⟨hx2.trans hx,fun h=>absurd h hlen,fun _ h=>a1 h,fun _ h h'=>a2 h h',fun _ h h'=>a3 h h'⟩
 have hw1:=hw0.mono hx2
 have he1:=he0.mono hx2
 rw[hll]at hw1
 clear hlen hw0 he0 hw he
 (try simp only[ctlB])
 refine xHQi ?_
 refine wpH_call0 (bytesV (wl:=wl) (el:=el) hw1 he1 hwl (by omega)) ?_
 rintro r H3 ⟨rfl,t,rfl,ht⟩
 have hrde:RdL wl (fun i=>el.getD i false)↔Rd b wl (fun i=>el.getD i false):=by unfold RdL Rd;rw[hll]
 rw[hrde]at ht
 clear hrde
 cases t with
 | false=>
  have hbad:¬ Rd b wl (fun i=>el.getD i false):=fun h=>by have:=ht.2 h;cases this
  clear ht
  (try simp only[ctlB])
  refine xCQi (fun h=>?_) (fun h=>?_)
  case refine_2=>cases h
  clear h
  (try simp only[ctlB])
  repeat' ((first|refine xSQi ?_|refine xOQi rfl ?_);(try simp only[ctlB]))
  refine xRQi ?_
  exact fin _ _ (Ext.refl _) (fun _=>rfl) (fun h=>absurd h hbad) (fun h=>absurd h hbad)
 | true=>
  have hrd:=ht.1 rfl
  have fin:∀(v:Value) (H':Heap),Ext H2 H'→(¬ (∀x,x<b.n→OkX b wl (fun i=>el.getD i false) x)→v=tup3 nl 0 17) →
   ((∀x,x<b.n→OkX b wl (fun i=>el.getD i false) x)→∃vd,v=tup3 vd (chg wl (b.wv (fxX b wl (fun i=>el.getD i false))) b.all:Nat) 0∧SlI H' vd (b.dat (fxX b wl (fun i=>el.getD i false)) b.n))→Ext H H'∧DecIs b wl el H' v:=
   fun v H' hx a2 a3=>fin v H' hx (fun h=>absurd hrd h) (fun _=>a2) (fun _=>a3)
  have hll':=hll
  simp only[hll]
  replace hll':False∨_:=.inr hll'
  clear ht hll hwl
  have hll':=hll'.resolve_left id
  (try simp only[ctlB])
  refine xCQi (fun h=>?_) (fun h=>?_)
  ·cases h
  clear h
  (try simp only[ctlB])
  repeat' ((first|refine xSQi ?_|refine xOQi rfl ?_);(try simp only[ctlB]))
  have hl0:=Heap.get_lt g0
  refine aw_for (fun j S H'=>Ext H2 H'∧(∀x,x<j→OkX b wl (fun i=>el.getD i false) x)∧∃vd bd,Own H2.length 1 H' vd bd (intL (b.dat (fxX b wl (fun i=>el.getD i false)) j))∧∃(z:Nat→Value),S=[.slice aw b.all cw,.slice ae el.length ce,z 2,z 3,z 4,z 5,z 6,.pointer (some ⟨H1.length,0,none⟩),z 8,.slice ap b.all cq,vd,.int .i64 (cBl b (fun i=>decide ((b.wv (fxX b wl (fun i=>el.getD i false))).getD i 0≠wl.getD i 0)) j:Nat),.int .i64 (j:Nat),z 13,z 14,z 15,z 16,z 17,z 18,z 19,z 20,z 21,z 22,z 23,z 24,z 25,z 26,z 27,z 28,z 29,z 30]) b.n ?_ ?_ ?_ ?_
  ·exact⟨Ext.refl _,by omega,_,H2.length,Own.nil (Nat.le_refl _),by rw[cBl_zero];exact exZGc rfl⟩
  ·rintro j S H' hj ⟨hx,-,vd,bd,-,z,rfl⟩
   have g0:=hx.get g0
   exact⟨_,xEQi,by simp⟩
  ·rintro j S H4 hj ⟨hx4,hok,vd,bd,oo,z,rfl⟩
   have g0':=hx4.get g0
   have hl4:=hx4.1
   have hle:=b.len_le j
   have hge:=b.len_ge j
   have hdl:=dat_len (b:=b) (W:=fxX b wl (fun i=>el.getD i false)) (fun x _=>by rw[fxX_len];omega) j (by omega)
   have hoff:=b.off_in hj
   (try simp only[ctlB])
   ((first|refine xSQi ?_|refine xOQi rfl ?_);(try simp only[ctlB]))
   refine aw_midX (fun S' H'=>H4=H'∧∃(z:Nat→Value),S'=[.slice aw b.all cw,.slice ae el.length ce,z 2,z 3,z 4,z 5,z 6,.pointer (some ⟨H1.length,0,none⟩),z 8,.slice ap b.all cq,vd,.int .i64 (cBl b (fun i=>decide ((b.wv (fxX b wl (fun i=>el.getD i false))).getD i 0≠wl.getD i 0)) j:Nat),.int .i64 (j:Nat),.int .i64 (b.len j:Nat),z 14,z 15,z 16,z 17,z 18,z 19,z 20,z 21,z 22,z 23,z 24,z 25,z 26,z 27,z 28,z 29,z 30]) ?_ ?_
   ·by_cases hsh:b.sh≤j
    ·have e1:b.len j=b.da+1:=if_pos hsh
     rw[e1]
     clear e1
     refine xCQi (fun h=>?_) (fun h=>?_)
     case refine_2=>exfalso;simp at h<;>omega
     clear h
     (try simp only[ctlB])
     repeat' ((first|refine xSQi ?_|refine xOQi rfl ?_);(try simp only[ctlB]))
     exact⟨by trivial,exZGc (by first|rfl|(simp only[Int.natCast_add,Int.natCast_one];rfl)|simp only[Int.natCast_add,Int.natCast_one])⟩
    ·have e1:b.len j=b.da:=if_neg hsh
     rw[e1]
     clear e1
     refine xCQi (fun h=>?_) (fun h=>?_)
     ·exfalso;simp at h<;>omega
     clear h
     (try simp only[ctlB])
     exact⟨by trivial,exZGc rfl⟩
   rintro S' _ ⟨rfl,z,rfl⟩
   have hsz:((b.len j:Nat):Int)+((b.ck:Nat):Int)=((b.len j+b.ck:Nat):Int):=by omega
   have hw4:=hw1.mono hx4
   have he4:=he1.mono hx4
   have hp4:=hp0.mono hx4
   (try simp only[ctlB])
   refine xHQi ?_
   refine wpH_call0 (blockV (b:=b) (x:=j) (wl:=wl) (el:=el) hb hj hpos hw4 hll' he4 hel2 hp4 (by omega)) ?_
   rintro r H5 ⟨hx5,v8,v9,v10,rfl,h8,h9,h10⟩
   have g0':=hx5.get g0'
   have oo:=oo.mono hx5
   have hx5:=hx4.trans hx5
   have hl5:=hx5.1
   clear hw4 he4 hp4 hsz
   (try simp only[ctlB])
   repeat' ((first|refine xSQi ?_|refine xOQi rfl ?_);(try simp only[ctlB]))
   refine xHQi ?_
   refine wpH_call0 (codeV (c:=b.ck) (by omega) (by omega) (by omega)) ?_
   rintro r H6 ⟨hx6,rfl⟩
   have h8:=h8.mono hx6
   have h9:=h9.mono hx6
   have h10:=h10.mono hx6
   have oo:=oo.mono hx6
   have hx6:=hx5.trans hx6
   have hl6:=hx6.1
   rw[←wdE_val hj hrd]at h8
   have h8:SlE H6 v8 (wdE b wl (fun i=>el.getD i false) j):=sli_sle h8
   have hwl:=wdE_len b wl (fun i=>el.getD i false) j
   have hlol:=losI_le (b:=b) (er:=fun i=>el.getD i false) (i:=b.all) (x:=j)
   have hin:=losI_in (er:=fun i=>el.getD i false) (x:=j) (Nat.le_refl b.all)
   (try simp only[ctlB])
   refine xHQi ?_
   refine wpH_call0 (decV_ok (f:=F5) (g:=g5) (w:=wdE b wl (fun i=>el.getD i false) j) (e:=losI b (fun i=>el.getD i false) b.all j) (by omega) gn285 (cdok5 (by omega) (by omega)) h8 (by omega) h9 (by omega)) ?_
   rintro r H7 ⟨hx7,-,-,hbad,hgood⟩
   rw[hwl]at hbad hgood
   have hbad:=hbad hin (by omega) (by show _<256;omega)
   have hgood:=hgood hin (by omega) (by show _<256;omega)
   have h10:=h10.mono hx7
   have oo:=oo.mono hx7
   have hx7:=hx6.trans hx7
   have hl7:=hx7.1
   clear h8 h9 hin g0'
   by_cases hxo:OkX b wl (fun i=>el.getD i false) j
   case neg=>
    rw[hbad hxo]
    clear hbad hgood
    unfold decE
    (try simp only[ctlB])
    repeat' ((first|refine xSQi ?_|refine xOQi rfl ?_);(try simp only[ctlB]))
    refine xCQi (fun h=>?_) (fun h=>?_)
    case refine_2=>exfalso;simp at h
    clear h
    (try simp only[ctlB])
    repeat' ((first|refine xSQi ?_|refine xOQi rfl ?_);(try simp only[ctlB]))
    refine xRQi ?_
    exact fin _ _ (hx7.trans (Ext.app _ _)) (fun _=>rfl) (fun h=>absurd (h j hj) hxo)
   obtain⟨vw,vc,rfl,hvw,hvc⟩:=hgood hxo
   have hvw:SlE H7 vw (fxX b wl (fun i=>el.getD i false) j):=hvw
   have hfl:=fxX_len b wl (fun i=>el.getD i false) j
   obtain⟨vt,hsl,hvt⟩:=sl_head (k:=b.len j) hvw (by omega)
   obtain⟨ac,kc,rfl⟩:=hvc.len
   obtain⟨aw',cw',ew⟩:=hvw.len
   rw[hfl]at ew
   subst ew
   clear hbad hgood hvc
   (try simp only[ctlB])
   repeat' ((first|refine xSQi ?_|refine xOQi rfl ?_);(try simp only[ctlB]))
   generalize hG:H7++_=H8 at *
   obtain⟨gr,hxr⟩:=box_facts hG
   clear hG
   have h10:=h10.mono hxr
   have oo:=oo.mono hxr
   have hvw:=hvw.mono hxr
   have hvt:=hvt.mono hxr
   have hx8:=hx7.trans hxr
   have hl8:=hx8.1
   clear hxr
   refine xCQi (fun h=>?_) (fun h=>?_)
   ·cases h
   clear h
   (try simp only[ctlB])
   repeat' ((first|refine xSQi ?_|refine xOQi rfl ?_);(try simp only[ctlB]))
   have hcl:=cBl_le b (fun i=>decide ((b.wv (fxX b wl (fun i=>el.getD i false))).getD i 0≠wl.getD i 0)) j
   have hcs:=cBl_succ b (fun i=>decide ((b.wv (fxX b wl (fun i=>el.getD i false))).getD i 0≠wl.getD i 0)) j
   rw[←cntX_sel hj]at hcs
   replace hcs:cBl b (fun i=>decide ((b.wv (fxX b wl (fun i=>el.getD i false))).getD i 0≠wl.getD i 0)) (j+1)=cBl b (fun i=>decide ((b.wv (fxX b wl (fun i=>el.getD i false))).getD i 0≠wl.getD i 0)) j+cIn b (fun i=>decide ((b.wv (fxX b wl (fun i=>el.getD i false))).getD i 0≠wl.getD i 0)) j (b.len j+b.ck):=hcs
   have hwv:=fun i (h:i<b.all)=>wv_at b (fxX b wl (fun i=>el.getD i false)) h
   have hw8:=hw1.mono hx8
   have hf10:=frI_len (b:=b) (i:=b.all) (x:=j)
   obtain⟨a10,c10,e10⟩:=h10.len
   rw[hf10]at e10
   subst e10
   replace hcs:False∨_:=.inr hcs
   refine aw_for (fun k S H'=>H8=H'∧∃(z:Nat→Value),S=[.slice aw b.all cw,.slice ae el.length ce,z 2,z 3,z 4,z 5,z 6,.pointer (some ⟨H1.length,0,none⟩),z 8,.slice ap b.all cq,vd,.int .i64 (cBl b (fun i=>decide ((b.wv (fxX b wl (fun i=>el.getD i false))).getD i 0≠wl.getD i 0)) j+cIn b (fun i=>decide ((b.wv (fxX b wl (fun i=>el.getD i false))).getD i 0≠wl.getD i 0)) j k:Nat),.int .i64 (j:Nat),.int .i64 (b.len j:Nat),z 14,z 15,.slice a10 (b.len j+b.ck) c10,.pointer (some ⟨H7.length,0,none⟩),z 18,.int .i64 (k:Nat),z 20,z 21,z 22,z 23,z 24,z 25,z 26,z 27,z 28,z 29,z 30]) (b.len j+b.ck) ?_ ?_ ?_ ?_
   ·exact⟨rfl,exZGc rfl⟩
   ·rintro k S H' hk ⟨rfl,z,rfl⟩
    exact⟨_,xEQi,by simp only[decide_eq_true_eq];exact Int.ofNat_lt⟩
   ·rintro k S H' hk ⟨rfl,z,rfl⟩
    have hpp:=b.pos_lt hj hk
    have hwp:=hwv _ hpp
    rw[b.at_pos hj hk]at hwp
    obtain⟨xb,xo,xsp,xc,xs,e1,gx,fx,_⟩:=hw8.els 0 (by omega)
    rw[hll']at e1 fx
    cases e1
    have kx:=fx _ hpp
    obtain⟨yb,yo,ysp,yc,ys,e2,gy,fy,_⟩:=h10.els 0 (by omega)
    rw[hf10]at e2 fy
    cases e2
    have ky:=fy k hk
    have hfk:(frI b b.all j).getD k 0=((b.pos j k:Nat):Int):=by
     unfold frI
     rw[range_getD _ hk,if_pos hpp]
    rw[hfk]at ky
    obtain⟨zb,zo,zsp,zc,zs,e3,gz,fz,_⟩:=(sle_sli hvw).els 0 (by rw[valI_len];omega)
    rw[valI_len,hfl]at e3 fz
    cases e3
    have kz:=fz k hk
    have hva:(valI (fxX b wl (fun i=>el.getD i false) j)).getD k 0=(((co (fxX b wl (fun i=>el.getD i false) j) k).val:Nat):Int):=by
     unfold valI co
     rw[List.getD_eq_getElem?_getD,List.getElem?_map,List.getElem?_eq_getElem (by rw[hfl];exact hk),List.getD_eq_getElem?_getD,List.getElem?_eq_getElem (by rw[hfl];exact hk)];rfl
    rw[hva]at kz
    have hcn:=cIn_succ b (fun i=>decide ((b.wv (fxX b wl (fun i=>el.getD i false))).getD i 0≠wl.getD i 0)) j k
    have hcle:=cIn_le b (fun i=>decide ((b.wv (fxX b wl (fun i=>el.getD i false))).getD i 0≠wl.getD i 0)) j k
    simp only[hwp,decide_eq_true_eq]at hcn
    clear hwp hwv fx fy fz hfk hva hvw hvt h10 hsl
    generalize cBl b (fun i=>decide ((b.wv (fxX b wl (fun i=>el.getD i false))).getD i 0≠wl.getD i 0)) j=c0 at *
    generalize cIn b (fun i=>decide ((b.wv (fxX b wl (fun i=>el.getD i false))).getD i 0≠wl.getD i 0)) j (k+1)=c2 at *
    generalize cIn b (fun i=>decide ((b.wv (fxX b wl (fun i=>el.getD i false))).getD i 0≠wl.getD i 0)) j k=c1 at *
    generalize (co (fxX b wl (fun i=>el.getD i false) j) k).val=y1 at *
    generalize b.pos j k=pp at *
    generalize wl.getD pp 0=y2 at *
    replace hcn:False∨_:=.inr hcn
    (try simp only[ctlB])
    by_cases hne:((y1:Nat):Int)≠y2
    ·have hcn:=hcn.resolve_left id
     rw[if_pos hne]at hcn
     refine xCQi (fun h=>?_) (fun h=>?_)
     case refine_2=>exfalso;simp at h<;>omega
     clear h
     (try simp only[ctlB])
     rw[hcn]
     repeat' ((first|refine xSQi ?_|refine xOQi rfl ?_);(try simp only[ctlB]))
     exact⟨by trivial,exZGc (by first|rfl|(simp only[Int.natCast_add,Int.natCast_one];rfl)|simp only[Int.natCast_add,Int.natCast_one])⟩
    ·have hcn:=hcn.resolve_left id
     rw[if_neg hne,Nat.add_zero]at hcn
     refine xCQi (fun h=>?_) (fun h=>?_)
     ·exfalso;simp at h<;>omega
     clear h
     (try simp only[ctlB])
     rw[hcn]
     repeat' ((first|refine xSQi ?_|refine xOQi rfl ?_);(try simp only[ctlB]))
     exact⟨by trivial,exZGc (by first|rfl|(simp only[Int.natCast_add,Int.natCast_one];rfl)|simp only[Int.natCast_add,Int.natCast_one])⟩
   ·rintro S H' ⟨rfl,z,rfl⟩
    have hcs:=hcs.resolve_left id
    rw[←hcs]
    clear hcs hcl hwv h10 hw8
    have htl:((fxX b wl (fun i=>el.getD i false) j).take (b.len j)).length=b.len j:=by rw[List.length_take];omega
    have hvt:=sle_sli hvt
    rw[←valI_len]at htl
    (try simp only[ctlB])
    refine xHQi ?_
    refine own_appI oo (by omega) (by omega) hvt (by omega) (by omega) ?_
    rw[←dat_succ]
    intro vd' H9 oo' hk9 hl9
    have hx9:=hk9.ext hx8 oo.1
    have hok':∀x,x<j+1→OkX b wl (fun i=>el.getD i false) x:=fun x hx=>by
     by_cases e:x=j
     ·rw[e];exact hxo
     ·exact hok x (by omega)
    have oo':Own H2.length 1 H9 vd' H8.length (intL (b.dat (fxX b wl (fun i=>el.getD i false)) (j+1))):=⟨by omega,oo'.2⟩
    clear hvt htl oo hvw hsl
    generalize b.dat (fxX b wl (fun i=>el.getD i false)) (j+1)=dj at *
    (try simp only[ctlB])
    repeat' ((first|refine xSQi ?_|refine xOQi rfl ?_);(try simp only[ctlB]))
    exact⟨hx9,hok',vd',_,oo',exZGc (by first|rfl|(simp only[Int.natCast_add,Int.natCast_one];rfl)|simp only[Int.natCast_add,Int.natCast_one])⟩
  ·rintro S H4 ⟨hx4,hok,vd,bd,oo,z,rfl⟩
   rw[cBl_all]
   (try simp only[ctlB])
   repeat' ((first|refine xSQi ?_|refine xOQi rfl ?_);(try simp only[ctlB]))
   refine xRQi ?_
   exact fin _ _ hx4 (fun h=>absurd hok h) (fun _=>⟨_,rfl,Sl.ofOwn oo⟩)
end
end Go.Proofs.YtkeagffmmhllcaaGreat
namespace Go.Proofs.YtkeagffmmhllcaaGreat
open Go.Abs Go.RS
set_option linter.unusedSimpArgs false
set_option linter.unusedVariables false
set_option maxRecDepth 20000
section
variable {lo:Nat}{v l:Int}{vd:Value}{d:List Int}
theorem sli_nil{H:Heap}:SlI H (.slice none 0 0) []:=.inl ⟨rfl,rfl⟩
theorem xTVd{cp:FuncId→Option CF}{lo:Nat}{l:List (Nat×E)}{chk:List E}{Q:Post}{S:List Value}{H:Heap}{vs:List (Nat×Value)}{dst:Option Nat}{o:HOp}{a:E}{xs:List Value}{pc:PC}(k:wpH cp lo o xs H fun v H'=>Q .normal (setD (setAll S vs) dst v) H')(h:evSets S H l=some vs:=by exact xEQd)(hc:evChk S H chk=true:=by simp(disch:=first|omega|(simp only[lenB];omega))only[evB,xBQd,Nat.reduceAdd,Nat.reduceBEq, *])(hp:holds S H pc=some true:=by simp(disch:=first|omega|(simp only[lenB];omega))only[evB,xBQd,Nat.reduceAdd,Nat.reduceBEq, *];try rfl)(ha:ev S H a=some xs:=by exact xEQd):wpS cp lo (.hv l chk pc dst o a) Q S H:=aw_hvT h hc hp ha k
theorem dec_any{vw ve:Value}{wl:List Int}{el:List Bool}(hwl:wl.length≤1000000000)(hel:el.length≤1000000000):∃(L:List Int) (n k:Int),L.length≤10000∧(∀H,SlI H vw wl→SlB H ve el→lo≤H.length→Ev cp lo 9 [vw,ve,.int .i64 v,.int .i64 l] H (fun r H'=>Ext H H'∧∃vo,r=tup3 vo n k∧SlI H' vo L)) ∧
  (∀H,SlI H vw wl→SlB H ve el→lo≤H.length→Ev cp lo 10 [vw,ve,.int .i64 v,.int .i64 l] H (fun r H'=>Ext H H'∧∃vo,r=tup3 vo n k∧SlI H' vo L)):=by
 by_cases h:Vl v l
 ·obtain⟨i,hi,ha⟩:=vl_arg h
  have hb:=bk_ok hi
  have hP:∀H,SlI H vw wl→SlB H ve el→lo≤H.length→_:=fun H hw he hlo=>decP (lo:=lo) hw he hwl hel hi ha hlo
  have hQ:∀H,SlI H vw wl→SlB H ve el→lo≤H.length→_:=fun H hw he hlo=>decQ (lo:=lo) hw he hwl hel hi ha hlo
  generalize bk i=b at *
  have h7:=hb.all
  by_cases h1:wl.length≠b.all∨(el.length≠0∧el.length≠wl.length)
  ·exact⟨[],0,7,by simp,fun H hw he hlo=>(hP H hw he hlo).mono fun r H' h=>⟨h.1,_,h.2.1 h1,sli_nil⟩,fun H hw he hlo=>(hQ H hw he hlo).mono fun r H' h=>⟨h.1,_,h.2.1 h1,sli_nil⟩⟩
  ·by_cases h2:Rd b wl fun i=>el.getD i false
   ·by_cases h3:∀x,x<b.n→OkX b wl (fun i=>el.getD i false) x
    ·refine⟨_,_,_,?_,fun H hw he hlo=>(hP H hw he hlo).mono fun r H' h=>⟨h.1,h.2.2.2.2 h1 h2 h3⟩,fun H hw he hlo=>(hQ H hw he hlo).mono fun r H' h=>⟨h.1,h.2.2.2.2 h1 h2 h3⟩⟩
     rw[dat_len (fun x _=>by rw[fxX_len];omega) b.n (Nat.le_refl _),b.off_n]
     have:b.all=b.cap+b.n*b.ck:=rfl
     omega
    ·exact⟨[],0,17,by simp,fun H hw he hlo=>(hP H hw he hlo).mono fun r H' h=>⟨h.1,_,h.2.2.2.1 h1 h2 h3,sli_nil⟩,fun H hw he hlo=>(hQ H hw he hlo).mono fun r H' h=>⟨h.1,_,h.2.2.2.1 h1 h2 h3,sli_nil⟩⟩
   ·exact⟨[],0,3,by simp,fun H hw he hlo=>(hP H hw he hlo).mono fun r H' h=>⟨h.1,_,h.2.2.1 h1 h2,sli_nil⟩,fun H hw he hlo=>(hQ H hw he hlo).mono fun r H' h=>⟨h.1,_,h.2.2.1 h1 h2,sli_nil⟩⟩
 ·exact⟨[],0,eVl v,by simp,fun H hw he hlo=>(decP_bad hlo h).mono fun r H' h=>⟨h.1,_,h.2,sli_nil⟩,fun H hw he hlo=>(decQ_bad hlo h).mono fun r H' h=>⟨h.1,_,h.2,sli_nil⟩⟩
theorem lawDecQ{H:Heap}{vw ve:Value}{wl:List Int}{el:List Bool}(hw:SlI H vw wl)(he:SlB H ve el):Ev cp H.length 4 [vw,ve,.int .i64 v,.int .i64 l] H (fun v _=>v=.bool true):=by
 have hw0:=hw
 have he0:=he
 obtain⟨aw,cw,rfl⟩:=hw.len
 obtain⟨ae,ce,rfl⟩:=he.len
 refine st4 ?_;unfold bd4 cf4;simp only[kB,ctlB]
 repeat' ((first|refine xSQd ?_|refine xOQd rfl ?_);(try simp only[ctlB]))
 by_cases h3:800<wl.length∨800<el.length
 ·refine xCQd (fun h=>?_) (fun h=>?_)
  case refine_2=>simp only[Bool.or_eq_false_iff,decide_eq_false_iff_not]at h;omega
  clear h
  (try simp only[ctlB])
  refine xHQd ?_
  refine wpH_call0 (exH (Nat.le_refl _)) ?_
  rintro r H1 ⟨-,rfl⟩
  (try simp only[ctlB])
  repeat' ((first|refine xSQd ?_|refine xOQd rfl ?_);(try simp only[ctlB]))
  refine xRQd ?_
  rfl
 refine xCQd (fun h=>?_) (fun h=>?_)
 ·simp only[Bool.or_eq_true,decide_eq_true_eq]at h;omega
 clear h
 obtain⟨L,n,k,hl1,hP,hV⟩:=dec_any (lo:=H.length) (v:=v) (l:=l) (vw:=.slice aw wl.length cw) (ve:=.slice ae el.length ce) (wl:=wl) (el:=el) (by omega) (by omega)
 (try simp only[ctlB])
 refine xHQd ?_
 refine wpH_call0 (hP H hw0 he0 (Nat.le_refl _)) ?_
 rintro r H1 ⟨hx1,v1,rfl,hv1⟩
 have hV:=hV H1 (hw0.mono hx1) (he0.mono hx1) hx1.1
 clear hP
 unfold tup3
 (try simp only[ctlB])
 repeat' ((first|refine xSQd ?_|refine xOQd rfl ?_);(try simp only[ctlB]))
 refine xHQd ?_
 refine wpH_call0 hV ?_
 rintro r H2 ⟨hx2,v2,rfl,hv2⟩
 have hv1:=hv1.mono hx2
 have hx2:=hx1.trans hx2
 have hl3:=hx2.1
 clear hV hx1
 unfold tup3
 (try simp only[ctlB])
 repeat' ((first|refine xSQd ?_|refine xOQd rfl ?_);(try simp only[ctlB]))
 refine xTVd ?_
 refine wpH_call0 (same_eq hv1 hv2 (by omega) (by omega) rfl) ?_
 rintro r _ ⟨rfl,rfl⟩
 (try simp only[ctlB])
 refine xTVd ?_
 refine wpH_call0 (exH hl3) ?_
 rintro r H3 ⟨-,rfl⟩
 (try simp only[ctlB])
 repeat' ((first|refine xSQd ?_|refine xOQd rfl ?_);(try simp only[ctlB]))
 refine xRQd ?_
 rfl
end
end Go.Proofs.YtkeagffmmhllcaaGreat
